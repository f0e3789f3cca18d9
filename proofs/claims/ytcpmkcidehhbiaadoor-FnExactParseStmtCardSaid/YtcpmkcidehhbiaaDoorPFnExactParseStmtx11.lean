/- Walks of the functions that a statement reaches, written by a program (the printing program, mended): no condition. -/
import Derived.Test.YtcpmkcidehhbiaaDoorPFnExactParseStmtx0
import Derived.Test.YtcpmkcidehhbiaaDoorPFnExactParseStmtx7
import Derived.Test.YtcpmkcidehhbiaaDoorPFnExactParseStmtx8
import Derived.Test.YtcpmkcidehhbiaaDoorPFnExactParseStmtx9
import Derived.Test.YtcpmkcidehhbiaaDoorPFnExactParseStmtx10
namespace Go.Proofs.YtcpmkcidehhbiaaDoor.PFnExactParseStmt
open Go.RowKit Go.Proofs.YtcpmkcidehhbiaaDoorW.PrintWords Go.Proofs.YtcpmkcidehhbiaaDoorW.PrintLast Go.Proofs.YtcpmkcidehhbiaaDoorW.PrintMore
attribute [local go_sem] max2_int min2_int max_two min_two max_three min_three max_four min_four   -- for this text's walks alone
set_option linter.unusedVariables false
set_option linter.unusedSimpArgs false

/-! ### spec_ParseStmt: function 19 -/
mutual
def spec_ParseStmt.j0 : Nat → List ByteArray → Bool → Option (Int × Int × Int × Int × Int × Int × Bool)
  | 0, _, _ => none
  | k + 1, x4, x23 => if x23 = true then (some (0, 0, 0, 0, 0, 0, false)) else (if 0 < (x4.length : Int) then (spec_ParseStmt.l0 k x4 (rdOf ByteArray.empty x4 0) (([] : List Int)) 1) else (none))
def spec_ParseStmt.l0 : Nat → List ByteArray → ByteArray → List Int → Int → Option (Int × Int × Int × Int × Int × Int × Bool)
  | 0, _, _, _, _ => none
  | k + 1, x4, x6, x7, x8 => if x8 < (x4.length : Int) then (if x6.size + 1 ≤ 9223372036854775807 then (if 0 ≤ x8 then (if (x6 ++ (⟨#[32]⟩ : ByteArray)).size + (rdOf ByteArray.empty x4 x8).size ≤ 9223372036854775807 then ((spec_l04Number.f k (rdOf ByteArray.empty x4 x8)).bind fun t219 => (if x7.length < 17592186044416 then (spec_ParseStmt.l0 k x4 ((x6 ++ (⟨#[32]⟩ : ByteArray)) ++ (rdOf ByteArray.empty x4 x8)) (x7 ++ [t219]) (wrap64 (x8 + 1))) else (none))) else (none)) else (none)) else (none)) else ((some (([0, 0, 0, 0] : List Int) : List Int)).bind fun y223 => (if x7.length + y223.length < 17592186044416 then (spec_ParseStmt.l1 k x6 (x7 ++ y223) 1) else (none)))
def spec_ParseStmt.l1 : Nat → ByteArray → List Int → Int → Option (Int × Int × Int × Int × Int × Int × Bool)
  | 0, _, _, _ => none
  | k + 1, x6, x7, x9 => if x9 ≤ 6 then (if 0 < (x7.length : Int) then (if 1 < (x7.length : Int) then (if 2 < (x7.length : Int) then (if 3 < (x7.length : Int) then ((spec_l04Plain.f x9 (rd x7 0) (rd x7 1) (rd x7 1) (rd x7 2) (rd x7 3)).bind fun bt234 => (if x9 = 3 then (spec_ParseStmt.j3 k x6 x7 x9 x9 (x9 == 3) bt234.1 bt234.2.1 bt234.2.2.1 bt234.2.2.2.1 bt234.2.2.2.2.1 bt234.2.2.2.2.2) else (spec_ParseStmt.j3 k x6 x7 x9 x9 (x9 == 4) bt234.1 bt234.2.1 bt234.2.2.1 bt234.2.2.2.1 bt234.2.2.2.2.1 bt234.2.2.2.2.2))) else (none)) else (none)) else (none)) else (none)) else (some (0, 0, 0, 0, 0, 0, false))
def spec_ParseStmt.j4 : Nat → ByteArray → List Int → Int → Int → Int → Int → Int → Int → Int → Option (Int × Int × Int × Int × Int × Int × Bool)
  | 0, _, _, _, _, _, _, _, _, _ => none
  | k + 1, x6, x7, x9, x241000, x241001, x241002, x241003, x241004, x241005 => (spec_StmtOk.f k x241000 x241001 x241002 x241003 x241004 x241005).bind fun t245 => (if t245 = true then ((spec_FormatStmt.f k x241000 x241001 x241002 x241003 x241004 x241005).bind fun t246 => (if t246.toList = x6.toList then (some (x241000, x241001, x241002, x241003, x241004, x241005, true)) else (spec_ParseStmt.l1 k x6 x7 (wrap64 (x9 + 1))))) else (spec_ParseStmt.l1 k x6 x7 (wrap64 (x9 + 1))))
def spec_ParseStmt.j3 : Nat → ByteArray → List Int → Int → Int → Bool → Int → Int → Int → Int → Int → Int → Option (Int × Int × Int × Int × Int × Int × Bool)
  | 0, _, _, _, _, _, _, _, _, _, _, _ => none
  | k + 1, x6, x7, x9, x76, x77, x241000, x241001, x241002, x241003, x241004, x241005 => if x77 = true then (if 0 < (x7.length : Int) then (if 1 < (x7.length : Int) then (if 2 < (x7.length : Int) then (spec_ParseStmt.j4 k x6 x7 x9 x241000 x241001 x241002 (rd x7 0) (rd x7 1) (rd x7 2)) else (none)) else (none)) else (none)) else (if x76 = 5 then (if 0 < (x7.length : Int) then (spec_ParseStmt.j4 k x6 x7 x9 x241000 x241001 (rd x7 0) x241003 x241004 x241005) else (none)) else (spec_ParseStmt.j4 k x6 x7 x9 x241000 x241001 x241002 x241003 x241004 x241005))
end
def spec_ParseStmt.f (k : Nat) (a0 : ByteArray) : Option (Int × Int × Int × Int × Int × Int × Bool) := (spec_SplitFields.f k a0).bind fun bt208 => (if bt208.2 = true then ((spec_l01In.f (bt208.1.length : Int) 1 5).bind fun t212 => (spec_ParseStmt.j0 k bt208.1 (!t212))) else (spec_ParseStmt.j0 k bt208.1 true))
theorem spec_ParseStmt.mono_l : ∀ k, (∀ y0 y1, LeO (spec_ParseStmt.j0 k y0 y1) (spec_ParseStmt.j0 (k + 1) y0 y1)) ∧ (∀ y0 y1 y2 y3, LeO (spec_ParseStmt.l0 k y0 y1 y2 y3) (spec_ParseStmt.l0 (k + 1) y0 y1 y2 y3)) ∧ (∀ y0 y1 y2, LeO (spec_ParseStmt.l1 k y0 y1 y2) (spec_ParseStmt.l1 (k + 1) y0 y1 y2)) ∧ (∀ y0 y1 y2 y3 y4 y5 y6 y7 y8, LeO (spec_ParseStmt.j4 k y0 y1 y2 y3 y4 y5 y6 y7 y8) (spec_ParseStmt.j4 (k + 1) y0 y1 y2 y3 y4 y5 y6 y7 y8)) ∧ (∀ y0 y1 y2 y3 y4 y5 y6 y7 y8 y9 y10, LeO (spec_ParseStmt.j3 k y0 y1 y2 y3 y4 y5 y6 y7 y8 y9 y10) (spec_ParseStmt.j3 (k + 1) y0 y1 y2 y3 y4 y5 y6 y7 y8 y9 y10))
  | 0 => ⟨fun _ _ r h => by simp [spec_ParseStmt.j0] at h, fun _ _ _ _ r h => by simp [spec_ParseStmt.l0] at h, fun _ _ _ r h => by simp [spec_ParseStmt.l1] at h, fun _ _ _ _ _ _ _ _ _ r h => by simp [spec_ParseStmt.j4] at h, fun _ _ _ _ _ _ _ _ _ _ _ r h => by simp [spec_ParseStmt.j3] at h⟩
  | k + 1 => by
    obtain ⟨ih0, ih1, ih2, ih3, ih4⟩ := spec_ParseStmt.mono_l k
    refine ⟨?_, ?_, ?_, ?_, ?_⟩
    · intro y0 y1
      unfold spec_ParseStmt.j0
      repeat' first
      | (with_reducible exact ih0 _ _)
      | (with_reducible exact ih1 _ _ _ _)
      | (with_reducible exact ih2 _ _ _)
      | (with_reducible exact ih3 _ _ _ _ _ _ _ _ _)
      | (with_reducible exact ih4 _ _ _ _ _ _ _ _ _ _ _)
      | (with_reducible exact spec_FormatStmt.mono _ _ _ _ _ _ _)
      | (with_reducible exact spec_SplitFields.mono _ _)
      | (with_reducible exact spec_StmtOk.mono _ _ _ _ _ _ _)
      | (with_reducible exact spec_l04Number.mono _ _)
      | (with_reducible exact LeO.refl _)
      | (with_reducible exact LeO.none _)
      | (with_reducible refine LeO.ite ?_ ?_)
      | (with_reducible refine LeO.bind ?_ (fun _ => ?_))
      | exact ih0 _ _
      | exact ih1 _ _ _ _
      | exact ih2 _ _ _
      | exact ih3 _ _ _ _ _ _ _ _ _
      | exact ih4 _ _ _ _ _ _ _ _ _ _ _
      | exact spec_FormatStmt.mono _ _ _ _ _ _ _
      | exact spec_SplitFields.mono _ _
      | exact spec_StmtOk.mono _ _ _ _ _ _ _
      | exact spec_l04Number.mono _ _
      | exact LeO.none _
      | refine LeO.ite ?_ ?_
      | refine LeO.bind ?_ (fun _ => ?_)
    · intro y0 y1 y2 y3
      unfold spec_ParseStmt.l0
      repeat' first
      | (with_reducible exact ih0 _ _)
      | (with_reducible exact ih1 _ _ _ _)
      | (with_reducible exact ih2 _ _ _)
      | (with_reducible exact ih3 _ _ _ _ _ _ _ _ _)
      | (with_reducible exact ih4 _ _ _ _ _ _ _ _ _ _ _)
      | (with_reducible exact spec_FormatStmt.mono _ _ _ _ _ _ _)
      | (with_reducible exact spec_SplitFields.mono _ _)
      | (with_reducible exact spec_StmtOk.mono _ _ _ _ _ _ _)
      | (with_reducible exact spec_l04Number.mono _ _)
      | (with_reducible exact LeO.refl _)
      | (with_reducible exact LeO.none _)
      | (with_reducible refine LeO.ite ?_ ?_)
      | (with_reducible refine LeO.bind ?_ (fun _ => ?_))
      | exact ih0 _ _
      | exact ih1 _ _ _ _
      | exact ih2 _ _ _
      | exact ih3 _ _ _ _ _ _ _ _ _
      | exact ih4 _ _ _ _ _ _ _ _ _ _ _
      | exact spec_FormatStmt.mono _ _ _ _ _ _ _
      | exact spec_SplitFields.mono _ _
      | exact spec_StmtOk.mono _ _ _ _ _ _ _
      | exact spec_l04Number.mono _ _
      | exact LeO.none _
      | refine LeO.ite ?_ ?_
      | refine LeO.bind ?_ (fun _ => ?_)
    · intro y0 y1 y2
      unfold spec_ParseStmt.l1
      repeat' first
      | (with_reducible exact ih0 _ _)
      | (with_reducible exact ih1 _ _ _ _)
      | (with_reducible exact ih2 _ _ _)
      | (with_reducible exact ih3 _ _ _ _ _ _ _ _ _)
      | (with_reducible exact ih4 _ _ _ _ _ _ _ _ _ _ _)
      | (with_reducible exact spec_FormatStmt.mono _ _ _ _ _ _ _)
      | (with_reducible exact spec_SplitFields.mono _ _)
      | (with_reducible exact spec_StmtOk.mono _ _ _ _ _ _ _)
      | (with_reducible exact spec_l04Number.mono _ _)
      | (with_reducible exact LeO.refl _)
      | (with_reducible exact LeO.none _)
      | (with_reducible refine LeO.ite ?_ ?_)
      | (with_reducible refine LeO.bind ?_ (fun _ => ?_))
      | exact ih0 _ _
      | exact ih1 _ _ _ _
      | exact ih2 _ _ _
      | exact ih3 _ _ _ _ _ _ _ _ _
      | exact ih4 _ _ _ _ _ _ _ _ _ _ _
      | exact spec_FormatStmt.mono _ _ _ _ _ _ _
      | exact spec_SplitFields.mono _ _
      | exact spec_StmtOk.mono _ _ _ _ _ _ _
      | exact spec_l04Number.mono _ _
      | exact LeO.none _
      | refine LeO.ite ?_ ?_
      | refine LeO.bind ?_ (fun _ => ?_)
    · intro y0 y1 y2 y3 y4 y5 y6 y7 y8
      unfold spec_ParseStmt.j4
      repeat' first
      | (with_reducible exact ih0 _ _)
      | (with_reducible exact ih1 _ _ _ _)
      | (with_reducible exact ih2 _ _ _)
      | (with_reducible exact ih3 _ _ _ _ _ _ _ _ _)
      | (with_reducible exact ih4 _ _ _ _ _ _ _ _ _ _ _)
      | (with_reducible exact spec_FormatStmt.mono _ _ _ _ _ _ _)
      | (with_reducible exact spec_SplitFields.mono _ _)
      | (with_reducible exact spec_StmtOk.mono _ _ _ _ _ _ _)
      | (with_reducible exact spec_l04Number.mono _ _)
      | (with_reducible exact LeO.refl _)
      | (with_reducible exact LeO.none _)
      | (with_reducible refine LeO.ite ?_ ?_)
      | (with_reducible refine LeO.bind ?_ (fun _ => ?_))
      | exact ih0 _ _
      | exact ih1 _ _ _ _
      | exact ih2 _ _ _
      | exact ih3 _ _ _ _ _ _ _ _ _
      | exact ih4 _ _ _ _ _ _ _ _ _ _ _
      | exact spec_FormatStmt.mono _ _ _ _ _ _ _
      | exact spec_SplitFields.mono _ _
      | exact spec_StmtOk.mono _ _ _ _ _ _ _
      | exact spec_l04Number.mono _ _
      | exact LeO.none _
      | refine LeO.ite ?_ ?_
      | refine LeO.bind ?_ (fun _ => ?_)
    · intro y0 y1 y2 y3 y4 y5 y6 y7 y8 y9 y10
      unfold spec_ParseStmt.j3
      repeat' first
      | (with_reducible exact ih0 _ _)
      | (with_reducible exact ih1 _ _ _ _)
      | (with_reducible exact ih2 _ _ _)
      | (with_reducible exact ih3 _ _ _ _ _ _ _ _ _)
      | (with_reducible exact ih4 _ _ _ _ _ _ _ _ _ _ _)
      | (with_reducible exact spec_FormatStmt.mono _ _ _ _ _ _ _)
      | (with_reducible exact spec_SplitFields.mono _ _)
      | (with_reducible exact spec_StmtOk.mono _ _ _ _ _ _ _)
      | (with_reducible exact spec_l04Number.mono _ _)
      | (with_reducible exact LeO.refl _)
      | (with_reducible exact LeO.none _)
      | (with_reducible refine LeO.ite ?_ ?_)
      | (with_reducible refine LeO.bind ?_ (fun _ => ?_))
      | exact ih0 _ _
      | exact ih1 _ _ _ _
      | exact ih2 _ _ _
      | exact ih3 _ _ _ _ _ _ _ _ _
      | exact ih4 _ _ _ _ _ _ _ _ _ _ _
      | exact spec_FormatStmt.mono _ _ _ _ _ _ _
      | exact spec_SplitFields.mono _ _
      | exact spec_StmtOk.mono _ _ _ _ _ _ _
      | exact spec_l04Number.mono _ _
      | exact LeO.none _
      | refine LeO.ite ?_ ?_
      | refine LeO.bind ?_ (fun _ => ?_)
theorem spec_ParseStmt.mono : ∀ a0 k, LeO (spec_ParseStmt.f k a0) (spec_ParseStmt.f (k + 1) a0) := by
  intro a0 k
  obtain ⟨ih0, ih1, ih2, ih3, ih4⟩ := spec_ParseStmt.mono_l k
  unfold spec_ParseStmt.f
  repeat' first
      | (with_reducible exact ih0 _ _)
      | (with_reducible exact ih1 _ _ _ _)
      | (with_reducible exact ih2 _ _ _)
      | (with_reducible exact ih3 _ _ _ _ _ _ _ _ _)
      | (with_reducible exact ih4 _ _ _ _ _ _ _ _ _ _ _)
      | (with_reducible exact spec_FormatStmt.mono _ _ _ _ _ _ _)
      | (with_reducible exact spec_SplitFields.mono _ _)
      | (with_reducible exact spec_StmtOk.mono _ _ _ _ _ _ _)
      | (with_reducible exact spec_l04Number.mono _ _)
      | (with_reducible exact LeO.refl _)
      | (with_reducible exact LeO.none _)
      | (with_reducible refine LeO.ite ?_ ?_)
      | (with_reducible refine LeO.bind ?_ (fun _ => ?_))
      | exact ih0 _ _
      | exact ih1 _ _ _ _
      | exact ih2 _ _ _
      | exact ih3 _ _ _ _ _ _ _ _ _
      | exact ih4 _ _ _ _ _ _ _ _ _ _ _
      | exact spec_FormatStmt.mono _ _ _ _ _ _ _
      | exact spec_SplitFields.mono _ _
      | exact spec_StmtOk.mono _ _ _ _ _ _ _
      | exact spec_l04Number.mono _ _
      | exact LeO.none _
      | refine LeO.ite ?_ ?_
      | refine LeO.bind ?_ (fun _ => ?_)
def spec_ParseStmt.T15 : Bool × List (List Nat × List Nat) := (true, [([], []), ([], []), ([1], [1]), ([2], [2]), ([], []), ([4], [4]), ([5], [5]), ([], []), ([7], [7]), ([8], [8]), ([], []), ([10], [10]), ([11], [11]), ([], []), ([13], [13]), ([14], [14]), ([9, 12, 15], [9, 12, 15]), ([0, 3, 6, 16], [0, 3, 6, 16]), ([17], [17]), ([], []), ([19, 18, 18, 0, 1, 2, 3, 4, 5, 6, 7, 8, 9, 10, 11, 12, 13, 14, 15, 16, 17, 18, 19], [18, 19])])
def spec_ParseStmt.B15 : List Nat := [0, 0, 2, 6, 0, 16, 48, 0, 128, 384, 0, 1024, 3072, 0, 8192, 24576, 65408, 131071, 262143, 0, 1048575]
theorem spec_ParseStmt.tab15 : rtab .any (opsOf Tryd.f19 15) = spec_ParseStmt.T15 := by kernel_rfl
theorem spec_ParseStmt.bits15 : waitsOk spec_ParseStmt.T15.2 spec_ParseStmt.B15 = true := by kernel_rfl
def spec_ParseStmt.T19 : Bool × List (List Nat × List Nat) := (true, [([], []), ([0], [0]), ([1], [1]), ([], []), ([3], [3]), ([4], [4]), ([], []), ([6], [6]), ([7], [7]), ([2, 5, 8], [2, 5, 8]), ([0, 1, 2, 3, 4, 5, 6, 7, 8, 9], []), ([10, 9, 0, 1, 2, 3, 4, 5, 6, 7, 8, 9], [9, 10])])
def spec_ParseStmt.B19 : List Nat := [0, 1, 3, 0, 8, 24, 0, 64, 192, 511, 1023, 2047]
theorem spec_ParseStmt.tab19 : rtab .any (opsOf Tryd.f19 19) = spec_ParseStmt.T19 := by kernel_rfl
theorem spec_ParseStmt.bits19 : waitsOk spec_ParseStmt.T19.2 spec_ParseStmt.B19 = true := by kernel_rfl
set_option maxHeartbeats 8000000 in
set_option maxRecDepth 100000 in
theorem spec_ParseStmt.calls (k : Nat) (a0 : ByteArray) (r1 : Int) (r2 : Int) (r3 : Int) (r4 : Int) (r5 : Int) (r6 : Int) (r7 : Bool) (w : World) (h : spec_ParseStmt.f k a0 = some (r1, r2, r3, r4, r5, r6, r7)) :
    Calls Tryd.prog 19 #[.string a0] w fun e w' => e = .returned (.tuple #[.agg #[.int .i64 r1, .int .i64 r2, .int .i64 r3, .int .i64 r4, .int .i64 r5, .int .i64 r6], .bool r7]) ∧ Below w.heap.size w w' := by
  have hu27 := Tryd.underlying27
  have hu25 := Tryd.underlying25
  have HB := Aside0.mk (Below.refl w.heap.size w)
  have H : ((spec_SplitFields.f k a0).bind fun bt208 => (if bt208.2 = true then ((spec_l01In.f (bt208.1.length : Int) 1 5).bind fun t212 => (spec_ParseStmt.j0 k bt208.1 (!t212))) else (spec_ParseStmt.j0 k bt208.1 true))) = some (r1, r2, r3, r4, r5, r6, r7) := h
  clear h
  replace H := Option.bind_eq_some_iff.mp H
  obtain ⟨⟨t208, t209⟩, A20, H⟩ := H
  replace H : (if t209 = true then ((spec_l01In.f (t208.length : Int) 1 5).bind fun t212 => (spec_ParseStmt.j0 k t208 (!t212))) else (spec_ParseStmt.j0 k t208 true)) = some (r1, r2, r3, r4, r5, r6, r7) := H
  have A2 := Aside0.mk A20
  clear A20
  have HC3 := Aside0.mk H
  clear H
  go_enter Tryd.func19, Tryd.ntmps19
  go_upto_region 2 with (first | ((with_reducible refine gate_dst (N := 2) rfl ?_); (try (refine gate_guard (by rfl) ?_; dsimp only)); refine box_event ?hg (N := 2) ?hd (cs := #[.int .i64 0, .int .i64 0, .int .i64 0, .int .i64 0, .int .i64 0, .int .i64 0]) (t := 27) ?hr ?_; (case hd => rfl); (case hg => rfl); (case hr => first | (go_simp; done) | (go_simp; rfl)); intro gb207 hg w4 hbox hb; have n0_ := Aside0.mk (below_step (by repeat (first | (with_reducible first | exact HB.out | apply below_alloc | apply pw_below_drewN | apply below_drew1) | exact HB.out)) hb); have n1_ := Aside0.mk (hbox); have n2_ := Aside0.mk ((by rw [hg]; exact (below_size (by repeat (first | (with_reducible first | exact HB.out | apply below_alloc | apply pw_below_drewN | apply below_drew1) | exact HB.out))) : w.heap.size ≤ gb207)); have n3_ := Aside0.mk ((by rw [hg]; exact (below_size (by repeat (first | (with_reducible first | exact HB.out | apply below_alloc | apply pw_below_drewN | apply below_drew1) | exact HB.out))) : w.heap.size ≤ gb207)); clear HB; have HB := n0_; have BK207 := n1_; have GW207 := n2_; have GE207 := n3_; clear n0_ n1_ n2_ n3_; clear hb hbox hg) | ((with_reducible refine gate_callee (f := 23) rfl ?_); refine goesL_ (some 13) rfl rfl Tryd.func23 (by kernel_rfl) rfl #[.string a0] rfl (by (try simp only [List.map_toArray, List.map_cons, List.map_nil]); first | done | rfl | (simp only [List.length_drop, List.length_take]; rfl)) ?_; (with_reducible refine (spec_SplitFields.calls k a0 t208 t209 _ A2.out).mono ?_); rintro e w5 ⟨v210, rfl, ho0, hb⟩; refine ⟨_, rfl, ?_⟩; have n0_ := Aside0.mk (Kd.R_lower ho0 (below_size (by repeat (first | (with_reducible first | exact HB.out | apply below_alloc | apply pw_below_drewN | apply below_drew1 | refine below_set ?_ GE207.out) | exact HB.out)))); have n1_ := Aside0.mk (blk_below (g := gb207) (o := .cells #[.int .i64 0, .int .i64 0, .int .i64 0, .int .i64 0, .int .i64 0, .int .i64 0] 27 (0, 0)) (by (with_reducible repeat (first | refine blk_drewN ?_ _ | refine blk_drew ?_ | refine blk_alloc ?_ _)); exact BK207.out) hb); have n2_ := Aside0.mk (below_step (by repeat (first | (with_reducible first | exact HB.out | apply below_alloc | apply pw_below_drewN | apply below_drew1 | refine below_set ?_ GE207.out) | exact HB.out)) hb); clear BK207; clear HB; have HO211 := n0_; have BK207 := n1_; have HB := n2_; clear n0_ n1_ n2_; (try clear hb); (try clear hb2); (try clear hk); (try clear hi); (try clear ho0)))
  (try simp only [Act.put, List.setIfInBounds_toArray, List.set_cons_zero, List.set_cons_succ])
  go_cut [23] (fun v23 wc => ∃ (kq : Nat) (x23_2 : Bool), v23 = .bool x23_2 ∧ Aside0 (spec_ParseStmt.j0 kq t208 x23_2 = some (r1, r2, r3, r4, r5, r6, r7)) ∧ Aside0 (kq ≤ k) ∧ Aside0 (Kd.R Kd.string 9 wc w.heap.size (fun _ => True) v210 t208) ∧ Aside0 (wc.heap[gb207]? = some (.cells #[.int .i64 0, .int .i64 0, .int .i64 0, .int .i64 0, .int .i64 0, .int .i64 0] 27 (0, 0))) ∧ Aside0 (Below w.heap.size w wc))
  case first =>
    have H := HC3.out
    clear HC3
    by_cases c6 : t209 = true
    · subst c6
      have H1 : ((spec_l01In.f (t208.length : Int) 1 5).bind fun t212 => (spec_ParseStmt.j0 k t208 (!t212))) = some (r1, r2, r3, r4, r5, r6, r7) := by rw [if_pos rfl] at H; exact H
      clear H
      have H := H1
      clear H1
      replace H := Option.bind_eq_some_iff.mp H
      obtain ⟨t212, A70, H⟩ := H
      replace H : (spec_ParseStmt.j0 k t208 (!t212)) = some (r1, r2, r3, r4, r5, r6, r7) := H
      have A7 := Aside0.mk A70
      clear A70
      have H' := Aside0.mk H
      clear H
      obtain ⟨Ao8, co8, eo8⟩ := Kd.R_slice HO211.out
      subst eo8
      go_wp2_with (first | (go_at_call 61; (with_reducible refine (spec_l01In.calls (t208.length : Int) 1 5 t212 _ A7.out).mono ?_); rintro e w' ⟨rfl, ⟨nd, rfl⟩⟩))
      go_meet
      case rel => exact ⟨_, (!t212), (by first | rfl | (simp; done) | (simp [*]; done)), H', ⟨by first | omega | exact Nat.le_refl _⟩, ⟨by (with_reducible repeat (first | apply Kd.R_alloc | apply Kd.R_drewN | apply Kd.R_drew)); exact HO211.out⟩, ⟨by (with_reducible repeat (first | refine blk_drewN ?_ _ | refine blk_drew ?_ | refine blk_alloc ?_ _)); exact BK207.out⟩, ⟨by repeat (first | (with_reducible first | exact HB.out | apply below_alloc | apply pw_below_drewN | apply below_drew1 | refine below_set ?_ GE207.out) | exact HB.out)⟩⟩
    · replace c6 := Bool.eq_false_iff.mpr c6
      subst c6
      have H1 : (spec_ParseStmt.j0 k t208 true) = some (r1, r2, r3, r4, r5, r6, r7) := by rw [if_neg (show ¬ (false = true) by decide)] at H; exact H
      clear H
      have H := H1
      clear H1
      have H' := Aside0.mk H
      clear H
      go_wp2
      go_meet
      case rel => exact ⟨_, (true), (by first | rfl | (simp; done) | (simp [*]; done)), H', ⟨by first | omega | exact Nat.le_refl _⟩, ⟨by (with_reducible repeat (first | apply Kd.R_alloc | apply Kd.R_drewN | apply Kd.R_drew)); exact HO211.out⟩, ⟨by (with_reducible repeat (first | refine blk_drewN ?_ _ | refine blk_drew ?_ | refine blk_alloc ?_ _)); exact BK207.out⟩, ⟨by repeat (first | (with_reducible first | exact HB.out | apply below_alloc | apply pw_below_drewN | apply below_drew1 | refine below_set ?_ GE207.out) | exact HB.out)⟩⟩
  case rest =>
    clear HC3
    try clear c1
    try clear c2
    try clear p2
    try clear c6
    obtain ⟨kq, x23_2, rfl, HA, HJ2, HO_4, BK207, HB⟩ := hcut
    cases kq with
    | zero => exact absurd HA.out (by simp [spec_ParseStmt.j0])
    | succ kj2 =>
      have H := HA.out
      clear HA
      simp only [spec_ParseStmt.j0] at H
      by_cases c9 : x23_2 = true
      · subst c9
        have H1 : (some (0, 0, 0, 0, 0, 0, false)) = some (r1, r2, r3, r4, r5, r6, r7) := by rw [if_pos rfl] at H; exact H
        clear H
        have H := H1
        clear H1
        simp only [Option.some.injEq, Prod.mk.injEq] at H
        obtain ⟨rfl, rfl, rfl, rfl, rfl, rfl, rfl⟩ := H
        have hcz10_0 : wc.cell? ⟨gb207, 0, none⟩ = some (.int .i64 0) := (blk_cell BK207.out 0).trans rfl
        have hcz10_1 : wc.cell? ⟨gb207, 1, none⟩ = some (.int .i64 0) := (blk_cell BK207.out 1).trans rfl
        have hcz10_2 : wc.cell? ⟨gb207, 2, none⟩ = some (.int .i64 0) := (blk_cell BK207.out 2).trans rfl
        have hcz10_3 : wc.cell? ⟨gb207, 3, none⟩ = some (.int .i64 0) := (blk_cell BK207.out 3).trans rfl
        have hcz10_4 : wc.cell? ⟨gb207, 4, none⟩ = some (.int .i64 0) := (blk_cell BK207.out 4).trans rfl
        have hcz10_5 : wc.cell? ⟨gb207, 5, none⟩ = some (.int .i64 0) := (blk_cell BK207.out 5).trans rfl
        have hfz10_0 := blk_frozen BK207.out 0
        have hfz10_1 := blk_frozen BK207.out 1
        have hfz10_2 := blk_frozen BK207.out 2
        have hfz10_3 := blk_frozen BK207.out 3
        have hfz10_4 := blk_frozen BK207.out 4
        have hfz10_5 := blk_frozen BK207.out 5
        go_wp2
        refine bodyPost_ret (results_ct rfl _ _ gb207 27 #[.int .i64 0, .int .i64 0, .int .i64 0, .int .i64 0, .int .i64 0, .int .i64 0] (0, 0) _ rfl (by (with_reducible repeat (first | refine blk_drewN ?_ _ | refine blk_drew ?_ | refine blk_alloc ?_ _)); refine blk_put (cs := #[.int .i64 0, .int .i64 0, .int .i64 0, .int .i64 0, .int .i64 0, .int .i64 0]) ?_ 5 _ rfl; (with_reducible repeat (first | refine blk_drewN ?_ _ | refine blk_drew ?_ | refine blk_alloc ?_ _)); refine blk_put (cs := #[.int .i64 0, .int .i64 0, .int .i64 0, .int .i64 0, .int .i64 0, .int .i64 0]) ?_ 4 _ rfl; (with_reducible repeat (first | refine blk_drewN ?_ _ | refine blk_drew ?_ | refine blk_alloc ?_ _)); refine blk_put (cs := #[.int .i64 0, .int .i64 0, .int .i64 0, .int .i64 0, .int .i64 0, .int .i64 0]) ?_ 3 _ rfl; (with_reducible repeat (first | refine blk_drewN ?_ _ | refine blk_drew ?_ | refine blk_alloc ?_ _)); refine blk_put (cs := #[.int .i64 0, .int .i64 0, .int .i64 0, .int .i64 0, .int .i64 0, .int .i64 0]) ?_ 2 _ rfl; (with_reducible repeat (first | refine blk_drewN ?_ _ | refine blk_drew ?_ | refine blk_alloc ?_ _)); refine blk_put (cs := #[.int .i64 0, .int .i64 0, .int .i64 0, .int .i64 0, .int .i64 0, .int .i64 0]) ?_ 1 _ rfl; (with_reducible repeat (first | refine blk_drewN ?_ _ | refine blk_drew ?_ | refine blk_alloc ?_ _)); refine blk_put (cs := #[.int .i64 0, .int .i64 0, .int .i64 0, .int .i64 0, .int .i64 0, .int .i64 0]) ?_ 0 _ rfl; (with_reducible repeat (first | refine blk_drewN ?_ _ | refine blk_drew ?_ | refine blk_alloc ?_ _)); exact BK207.out) Tryd.underlying27 rfl (by kernel_rfl)) rfl ?_
        exact ⟨by first | rfl | (simp [errW_none, errW_some] <;> rfl) | (simp [*, errW_none, errW_some] <;> rfl), by repeat (first | (with_reducible first | exact HB.out | apply below_alloc | apply pw_below_drewN | apply below_drew1 | refine below_set ?_ GE207.out) | exact HB.out)⟩
      · replace c9 := Bool.eq_false_iff.mpr c9
        subst c9
        have H1 : (if 0 < (t208.length : Int) then (spec_ParseStmt.l0 kj2 t208 (rdOf ByteArray.empty t208 0) (([] : List Int)) 1) else (none)) = some (r1, r2, r3, r4, r5, r6, r7) := by rw [if_neg (show ¬ (false = true) by decide)] at H; exact H
        clear H
        have H := H1
        clear H1
        by_cases c11 : 0 < (t208.length : Int)
        · rw [if_pos c11] at H
          have c11b0 : decide (0 < (t208.length : Int)) = true := decide_eq_true c11
          have c11b1 : decide (0 < t208.length) = true := decide_eq_true (by omega)
          clear c11
          obtain ⟨y214, hy214⟩ : ∃ y_ : List Int, y_ = (([] : List Int)) := ⟨_, rfl⟩
          replace H : (spec_ParseStmt.l0 kj2 t208 (rdOf ByteArray.empty t208 0) y214 1) = some (r1, r2, r3, r4, r5, r6, r7) := by first | (rw [hy214]; with_reducible exact H) | (have H2_ := (Option.bind_some _ _).symm.trans H; rw [hy214]; with_reducible exact H2_) | (have H2_ := (Option.bind_some _ _).symm.trans H; with_reducible exact H2_) | with_reducible exact H | (rw [hy214]; exact H) | exact H
          have Ny214 := Aside0.mk hy214
          clear hy214
          have H' := Aside0.mk H
          clear H
          obtain ⟨Ao12, co12, eo12⟩ := Kd.R_slice HO_4.out
          subst eo12
          have p213 : 0 ≤ (0 : Int) := (by omega)
          have q213 : 0 < (t208.length : Int) := of_decide_eq_true (by first | (with_reducible assumption) | assumption)
          obtain ⟨ad213, e213, hx213_0⟩ := Kd.at_string (Kd.R_reads' HO_4.out).2.2 0 p213 q213
          cases e213
          have qi213 : (0 < t208.length) = True := eq_true (by omega)
          (try rw [show ((0 : Int)).toNat = 0 from rfl] at hx213_0)
          (try rw [Addr.add_zero'] at hx213_0)
          replace p213 := eq_true p213
          replace q213 := eq_true q213
          go_wp2_with (first | ((with_reducible refine gate_dst (N := 28) rfl ?_); (try (refine gate_guard (by rfl) ?_; dsimp only)); refine Kd.R_lit (Kd.int .i64) _ 3 ?hg (N := 28) ?hd (xs := ([] : List Int)) (inner := []) (ok := fun _ => True) (okp := fun _ => True) ?hr ?hp (fun _ hk => hk) trivial (Below.refl _ _) (Nat.le_refl _) (by simp) ?_; (case hd => rfl); (case hg => rfl); (case hr => first | (go_simp; done) | (go_simp; rfl)); (case hp => exact (Reps.none _ _)); intro v215 w13 ho14 hb hg_ hnew_; clear hg_ hnew_; (first | rw [← Ny214.out] at ho14 | (simp only [Int.reduceToNat] at ho14; rw [← Ny214.out] at ho14)); have n0_ := Aside0.mk (Kd.R_below (by (with_reducible repeat (first | apply Kd.R_alloc | apply Kd.R_drewN | apply Kd.R_drew)); exact HO_4.out) hb); have n1_ := Aside0.mk (Kd.R_lower ho14 (below_size (by repeat (first | (with_reducible first | exact HB.out | apply below_alloc | apply pw_below_drewN | apply below_drew1 | refine below_set ?_ GE207.out) | exact HB.out)))); have n2_ := Aside0.mk (blk_below (g := gb207) (o := .cells #[.int .i64 0, .int .i64 0, .int .i64 0, .int .i64 0, .int .i64 0, .int .i64 0] 27 (0, 0)) (by (with_reducible repeat (first | refine blk_drewN ?_ _ | refine blk_drew ?_ | refine blk_alloc ?_ _)); exact BK207.out) hb); have n3_ := Aside0.mk (below_step (by repeat (first | (with_reducible first | exact HB.out | apply below_alloc | apply pw_below_drewN | apply below_drew1 | refine below_set ?_ GE207.out) | exact HB.out)) hb); clear HO_4; clear BK207; clear HB; have HO_4 := n0_; have HO216 := n1_; have BK207 := n2_; have HB := n3_; clear n0_ n1_ n2_ n3_; clear hb ho14))
          go_loopg [6, 7, 8] kj2 (fun kq v6 v7 v8 w' => ∃ (x6_2 : ByteArray) (x7_2 : List Int) (x8_2 : Int), v6 = .string x6_2 ∧ v8 = .int .i64 x8_2 ∧ Aside0 (spec_ParseStmt.l0 kq t208 x6_2 x7_2 x8_2 = some (r1, r2, r3, r4, r5, r6, r7)) ∧ Aside0 (kq ≤ kj2) ∧ Aside0 (Kd.R Kd.string 9 w' w.heap.size (fun _ => True) (.slice (some ad213) t208.length co12) t208) ∧ Aside0 (Kd.R (Kd.int .i64) 3 w' w.heap.size (fun _ => True) v7 x7_2) ∧ Aside0 (w'.heap[gb207]? = some (.cells #[.int .i64 0, .int .i64 0, .int .i64 0, .int .i64 0, .int .i64 0, .int .i64 0] 27 (0, 0))) ∧ Aside0 (Below w.heap.size w w'))
          case atStart => exact ⟨(rdOf ByteArray.empty t208 0), (y214), (1), (by first | rfl | (simp; done) | (simp [*]; done)), (by first | rfl | (simp; done) | (simp [*]; done)), H', ⟨Nat.le_refl _⟩, ⟨by (with_reducible repeat (first | apply Kd.R_alloc | apply Kd.R_drewN | apply Kd.R_drew)); exact HO_4.out⟩, ⟨by (with_reducible repeat (first | apply Kd.R_alloc | apply Kd.R_drewN | apply Kd.R_drew)); exact HO216.out⟩, ⟨by (with_reducible repeat (first | refine blk_drewN ?_ _ | refine blk_drew ?_ | refine blk_alloc ?_ _)); exact BK207.out⟩, ⟨by repeat (first | (with_reducible first | exact HB.out | apply below_alloc | apply pw_below_drewN | apply below_drew1 | refine below_set ?_ GE207.out) | exact HB.out)⟩⟩
          case round =>
            clear H'
            try clear c1
            try clear c2
            try clear p2
            try clear q2
            try clear hx2
            try clear qi2
            try clear c6
            try clear c9
            try clear c11
            try clear c11b0
            try clear c11b1
            try clear hcz10_0
            try clear hcz10_1
            try clear hcz10_2
            try clear hcz10_3
            try clear hcz10_4
            try clear hcz10_5
            try clear hfz10_0
            try clear hfz10_1
            try clear hfz10_2
            try clear hfz10_3
            try clear hfz10_4
            try clear hfz10_5
            try clear hx213_0
            try clear p2
            try clear p213
            try clear q213
            obtain ⟨x6_2, x7_2, x8_2, rfl, rfl, HA, HK2, HO_4, HO_7, BK207, HB⟩ := hrel
            cases gk with
            | zero => exact absurd HA.out (by simp [spec_ParseStmt.l0])
            | succ k2 =>
              have H := HA.out
              clear HA
              simp only [spec_ParseStmt.l0] at H
              by_cases c15 : x8_2 < (t208.length : Int)
              · rw [if_pos c15] at H
                have c15b0 : decide (x8_2 < (t208.length : Int)) = true := decide_eq_true c15
                clear c15
                by_cases c16 : x6_2.size + 1 ≤ 9223372036854775807
                · rw [if_pos c16] at H
                  have c16b0 := eq_true c16
                  have c16b1 : decide (x6_2.size + 1 ≤ 9223372036854775807) = true := decide_eq_true c16
                  try have c16b2 : (9223372036854775807 < x6_2.size + 1) = False := eq_false (Nat.not_lt.2 c16)
                  by_cases c17 : 0 ≤ x8_2
                  · rw [if_pos c17] at H
                    have c17b0 : decide (0 ≤ x8_2) = true := decide_eq_true c17
                    clear c17
                    by_cases c18 : (x6_2 ++ (⟨#[32]⟩ : ByteArray)).size + (rdOf ByteArray.empty t208 x8_2).size ≤ 9223372036854775807
                    · rw [if_pos c18] at H
                      have c18b0 := eq_true c18
                      have c18b1 : decide ((x6_2 ++ (⟨#[32]⟩ : ByteArray)).size + (rdOf ByteArray.empty t208 x8_2).size ≤ 9223372036854775807) = true := decide_eq_true c18
                      try have c18b2 : (9223372036854775807 < (x6_2 ++ (⟨#[32]⟩ : ByteArray)).size + (rdOf ByteArray.empty t208 x8_2).size) = False := eq_false (Nat.not_lt.2 c18)
                      try have c18b3 : (9223372036854775807 < x6_2.size + 1 + (rdOf ByteArray.empty t208 x8_2).size) = False := by have z := c18b2; simp only [ByteArray.size_append] at z; exact z
                      replace H := Option.bind_eq_some_iff.mp H
                      obtain ⟨t219, A190, H⟩ := H
                      replace H : (if x7_2.length < 17592186044416 then (spec_ParseStmt.l0 k2 t208 ((x6_2 ++ (⟨#[32]⟩ : ByteArray)) ++ (rdOf ByteArray.empty t208 x8_2)) (x7_2 ++ [t219]) (wrap64 (x8_2 + 1))) else (none)) = some (r1, r2, r3, r4, r5, r6, r7) := H
                      have A19 := Aside0.mk A190
                      clear A190
                      by_cases c20 : x7_2.length < 17592186044416
                      · rw [if_pos c20] at H
                        have LMc20 := Aside0.mk c20
                        clear c20
                        obtain ⟨y220, hy220⟩ : ∃ y_ : List Int, y_ = (x7_2 ++ [t219]) := ⟨_, rfl⟩
                        replace H : (spec_ParseStmt.l0 k2 t208 ((x6_2 ++ (⟨#[32]⟩ : ByteArray)) ++ (rdOf ByteArray.empty t208 x8_2)) y220 (wrap64 (x8_2 + 1))) = some (r1, r2, r3, r4, r5, r6, r7) := by first | (rw [hy220]; with_reducible exact H) | (have H2_ := (Option.bind_some _ _).symm.trans H; rw [hy220]; with_reducible exact H2_) | (have H2_ := (Option.bind_some _ _).symm.trans H; with_reducible exact H2_) | with_reducible exact H | (rw [hy220]; exact H) | exact H
                        have Ny220 := Aside0.mk hy220
                        clear hy220
                        have H' := Aside0.mk H
                        clear H
                        have p217 : 0 ≤ (x8_2 : Int) := of_decide_eq_true (by first | (with_reducible assumption) | assumption)
                        have q217 : x8_2 < (t208.length : Int) := of_decide_eq_true (by first | (with_reducible assumption) | assumption)
                        obtain ⟨ad217, e217, hx217_0⟩ := Kd.at_string (Kd.R_reads' HO_4.out).2.2 x8_2 p217 q217
                        obtain rfl : ad213 = ad217 := (by injection e217)
                        replace p217 := eq_true p217
                        replace q217 := eq_true q217
                        have p218 : 0 ≤ (x8_2 : Int) := of_decide_eq_true (by first | (with_reducible assumption) | assumption)
                        have q218 : x8_2 < (t208.length : Int) := of_decide_eq_true (by first | (with_reducible assumption) | assumption)
                        obtain ⟨ad218, e218, hx218_0⟩ := Kd.at_string (Kd.R_reads' HO_4.out).2.2 x8_2 p218 q218
                        obtain rfl : ad213 = ad218 := (by injection e218)
                        replace p218 := eq_true p218
                        replace q218 := eq_true q218
                        go_wp2_with (first | ((with_reducible refine gate_callee (f := 62) rfl ?_); refine goesL_ (some 47) rfl rfl Tryd.func62 (by kernel_rfl) rfl #[.string (rdOf ByteArray.empty t208 x8_2)] rfl (by (try simp only [List.map_toArray, List.map_cons, List.map_nil]); first | done | rfl | (simp only [List.length_drop, List.length_take]; rfl)) ?_; (with_reducible refine (spec_l04Number.calls k2 (rdOf ByteArray.empty t208 x8_2) t219 _ A19.out).mono ?_); rintro e w' ⟨rfl, ⟨nd, rfl⟩⟩; refine ⟨_, rfl, ?_⟩) | ((with_reducible refine gate_builtin (b := .append) (xs := #[.tmp 42, .tmp 48]) rfl ?_); (try (refine gate_guard (by rfl) ?_; dsimp only)); at_builtin; refine Kd.R_append (Kd.int .i64) (w0 := w) w.heap.size rfl (.tmp 42) (.tmp 48) 73 3 (.int .i64 0) 8 rfl Tryd.underlying73 info3 rfl (by decide) (by omega) u7 x7_2 t219 [.int .i64 t219] (fun _ => True) (fun _ => False) rfl rfl ?aP (fun _ hk => hk.elim) ?aF ?aO ?aB ?aS ?aL ?_; (case aP => exact rfl); (case aB => exact (by repeat (first | (with_reducible first | exact HB.out | apply below_alloc | apply pw_below_drewN | apply below_drew1 | refine below_set ?_ GE207.out) | exact HB.out))); (case aF => exact (fun _ _ => trivial)); (case aO => exact (by (with_reducible repeat (first | apply Kd.R_alloc | apply Kd.R_drewN | apply Kd.R_drew)); exact HO_7.out)); (case aS => exact (below_size (by repeat (first | (with_reducible first | exact HB.out | apply below_alloc | apply pw_below_drewN | apply below_drew1 | refine below_set ?_ GE207.out) | exact HB.out)))); (case aL => have := LMc20.out; omega); intro v221 w21 ho hb hg hat; (first | rw [← Ny220.out] at ho | (simp only [Int.reduceToNat] at ho; rw [← Ny220.out] at ho)); have n0_ := Aside0.mk (Kd.R_over' (by (with_reducible repeat (first | apply Kd.R_alloc | apply Kd.R_drewN | apply Kd.R_drew)); exact HO_4.out) (Kd.R_typed (by (with_reducible repeat (first | apply Kd.R_alloc | apply Kd.R_drewN | apply Kd.R_drew)); exact HO_7.out)) (by decide) hg); have n1_ := Aside0.mk (blk_grown (g := gb207) (o := .cells #[.int .i64 0, .int .i64 0, .int .i64 0, .int .i64 0, .int .i64 0, .int .i64 0] 27 (0, 0)) (by (with_reducible repeat (first | refine blk_drewN ?_ _ | refine blk_drew ?_ | refine blk_alloc ?_ _)); exact BK207.out) hg (Kd.R_ne HO_7.out BK207.out (by decide))); have n2_ := Aside0.mk (hb); have n3_ := Aside0.mk (ho); clear HO_4; clear BK207; clear HB; clear HO_7; have HO_4 := n0_; have BK207 := n1_; have HB := n2_; have HO222 := n3_; clear n0_ n1_ n2_ n3_; clear ho hb hg hat))
                        go_roundg k2
                        case measure => have := HJ2.out; have := HK2.out; omega
                        case rel => exact ⟨((x6_2 ++ (⟨#[32]⟩ : ByteArray)) ++ (rdOf ByteArray.empty t208 x8_2)), (y220), (wrap64 (x8_2 + 1)), (by first | rfl | (simp; done) | (simp [*]; done)), (by first | rfl | (simp; done) | (simp [*]; done)), H', ⟨by have := HJ2.out; have := HK2.out; omega⟩, ⟨by (with_reducible repeat (first | apply Kd.R_alloc | apply Kd.R_drewN | apply Kd.R_drew)); exact HO_4.out⟩, ⟨by (with_reducible repeat (first | apply Kd.R_alloc | apply Kd.R_drewN | apply Kd.R_drew)); exact HO222.out⟩, ⟨by (with_reducible repeat (first | refine blk_drewN ?_ _ | refine blk_drew ?_ | refine blk_alloc ?_ _)); exact BK207.out⟩, ⟨by repeat (first | (with_reducible first | exact HB.out | apply below_alloc | apply pw_below_drewN | apply below_drew1 | refine below_set ?_ GE207.out) | exact HB.out)⟩⟩
                      · rw [if_neg c20] at H
                        exact absurd H (by simp)
                    · rw [if_neg c18] at H
                      exact absurd H (by simp)
                  · rw [if_neg c17] at H
                    exact absurd H (by simp)
                · rw [if_neg c16] at H
                  exact absurd H (by simp)
              · rw [if_neg c15] at H
                have c15b0 : decide (x8_2 < (t208.length : Int)) = false := decide_eq_false c15
                clear c15
                obtain ⟨y223, hy223⟩ : ∃ y_ : List Int, y_ = (([0, 0, 0, 0] : List Int)) := ⟨_, rfl⟩
                replace H : (if x7_2.length + y223.length < 17592186044416 then (spec_ParseStmt.l1 k2 x6_2 (x7_2 ++ y223) 1) else (none)) = some (r1, r2, r3, r4, r5, r6, r7) := by first | (rw [hy223]; with_reducible exact H) | (have H2_ := (Option.bind_some _ _).symm.trans H; rw [hy223]; with_reducible exact H2_) | (have H2_ := (Option.bind_some _ _).symm.trans H; with_reducible exact H2_) | with_reducible exact H | (rw [hy223]; exact H) | exact H
                have Ny223 := Aside0.mk hy223
                clear hy223
                by_cases c22 : x7_2.length + y223.length < 17592186044416
                · rw [if_pos c22] at H
                  have LMc22 := Aside0.mk c22
                  clear c22
                  obtain ⟨y226, hy226⟩ : ∃ y_ : List Int, y_ = (x7_2 ++ y223) := ⟨_, rfl⟩
                  replace H : (spec_ParseStmt.l1 k2 x6_2 y226 1) = some (r1, r2, r3, r4, r5, r6, r7) := by first | (rw [hy226]; with_reducible exact H) | (have H2_ := (Option.bind_some _ _).symm.trans H; rw [hy226]; with_reducible exact H2_) | (have H2_ := (Option.bind_some _ _).symm.trans H; with_reducible exact H2_) | with_reducible exact H | (rw [hy226]; exact H) | exact H
                  have Ny226 := Aside0.mk hy226
                  clear hy226
                  have H' := Aside0.mk H
                  clear H
                  go_wp2_with (first | ((with_reducible refine gate_dst (N := 51) rfl ?_); (try (refine gate_guard (by rfl) ?_; dsimp only)); refine Kd.R_lit (Kd.int .i64) _ 3 ?hg (N := 51) ?hd (xs := ([0, 0, 0, 0] : List Int)) (inner := [.int .i64 0, .int .i64 0, .int .i64 0, .int .i64 0]) (ok := fun _ => True) (okp := fun _ => True) ?hr ?hp (fun _ hk => hk) trivial (Below.refl _ _) (Nat.le_refl _) (by simp) ?_; (case hd => rfl); (case hg => rfl); (case hr => first | (go_simp; done) | (go_simp; rfl)); (case hp => exact (Reps.one (show Kd.M (Kd.int .i64) _ _ _ 0 [.int .i64 0] from rfl) (Reps.one (show Kd.M (Kd.int .i64) _ _ _ 0 [.int .i64 0] from rfl) (Reps.one (show Kd.M (Kd.int .i64) _ _ _ 0 [.int .i64 0] from rfl) (Reps.one (show Kd.M (Kd.int .i64) _ _ _ 0 [.int .i64 0] from rfl) (Reps.none _ _)))))); intro v224 w23 ho24 hb hg_ hnew_; clear hg_ hnew_; (first | rw [← Ny223.out] at ho24 | (simp only [Int.reduceToNat] at ho24; rw [← Ny223.out] at ho24)); have n0_ := Aside0.mk (Kd.R_below (by (with_reducible repeat (first | apply Kd.R_alloc | apply Kd.R_drewN | apply Kd.R_drew)); exact HO_4.out) hb); have n1_ := Aside0.mk (Kd.R_elder' (by (with_reducible repeat (first | apply Kd.R_alloc | apply Kd.R_drewN | apply Kd.R_drew)); exact HO_7.out) (Kd.R_base ho24) hb); have n2_ := Aside0.mk (Kd.R_lower (Kd.R_new' ho24 (Kd.R_lt (by (with_reducible repeat (first | apply Kd.R_alloc | apply Kd.R_drewN | apply Kd.R_drew)); exact HO_7.out))) (below_size (by repeat (first | (with_reducible first | exact HB.out | apply below_alloc | apply pw_below_drewN | apply below_drew1 | refine below_set ?_ GE207.out) | exact HB.out)))); have n3_ := Aside0.mk (blk_below (g := gb207) (o := .cells #[.int .i64 0, .int .i64 0, .int .i64 0, .int .i64 0, .int .i64 0, .int .i64 0] 27 (0, 0)) (by (with_reducible repeat (first | refine blk_drewN ?_ _ | refine blk_drew ?_ | refine blk_alloc ?_ _)); exact BK207.out) hb); have n4_ := Aside0.mk (below_step (by repeat (first | (with_reducible first | exact HB.out | apply below_alloc | apply pw_below_drewN | apply below_drew1 | refine below_set ?_ GE207.out) | exact HB.out)) hb); clear HO_4; clear HO_7; clear BK207; clear HB; have HO_4 := n0_; have HO_7 := n1_; have HO225 := n2_; have BK207 := n3_; have HB := n4_; clear n0_ n1_ n2_ n3_ n4_; clear hb ho24; obtain ⟨Ao26, co26, eo26⟩ := Kd.R_slice HO225.out; subst eo26) | ((with_reducible refine gate_builtin (b := .append) (xs := #[.tmp 50, .tmp 51]) rfl ?_); (try (refine gate_guard (by rfl) ?_; dsimp only)); at_builtin; refine Kd.R_append_rows (Kd.int .i64) (w0 := w) w.heap.size rfl (.tmp 50) (.tmp 51) 73 3 (.int .i64 0) 8 rfl Tryd.underlying73 info3 rfl (by decide) (by omega) u7 x7_2 y223 _ _ _ (fun k_ => some k_ ≠ (.slice Ao26 y223.length co26 : Value).ownBlock) (fun _ => False) rfl rfl ?aO ?aR (fun _ _ h => h) (fun _ h => h.elim) ?aF ?aB ?aS ?aL ?_; (case aR => repeat (first | exact (Kd.R_reads' HO225.out).2.2 | (with_reducible refine Kd.C_alloc ?_ _) | (with_reducible refine Kd.C_drewN ?_ _) | (with_reducible refine Kd.C_drew ?_))); (case aB => exact (by repeat (first | (with_reducible first | exact HB.out | apply below_alloc | apply pw_below_drewN | apply below_drew1 | refine below_set ?_ GE207.out) | exact HB.out))); (case aF => exact (fun k_ hk => Kd.fresh' (Kd.R_lt (by (with_reducible repeat (first | apply Kd.R_alloc | apply Kd.R_drewN | apply Kd.R_drew)); exact HO225.out)) k_ hk)); (case aO => exact (by (with_reducible repeat (first | apply Kd.R_alloc | apply Kd.R_drewN | apply Kd.R_drew)); exact Kd.R_mono HO_7.out (fun _ hk => hk.2))); (case aS => exact (below_size (by repeat (first | (with_reducible first | exact HB.out | apply below_alloc | apply pw_below_drewN | apply below_drew1 | refine below_set ?_ GE207.out) | exact HB.out)))); (case aL => have := LMc22.out; omega); intro v227 w25 ho hb hg hat; (first | rw [← Ny226.out] at ho | (simp only [Int.reduceToNat] at ho; rw [← Ny226.out] at ho)); have n0_ := Aside0.mk (Kd.R_over' (by (with_reducible repeat (first | apply Kd.R_alloc | apply Kd.R_drewN | apply Kd.R_drew)); exact HO_4.out) (Kd.R_typed (by (with_reducible repeat (first | apply Kd.R_alloc | apply Kd.R_drewN | apply Kd.R_drew)); exact HO_7.out)) (by decide) hg); have n1_ := Aside0.mk (blk_grown (g := gb207) (o := .cells #[.int .i64 0, .int .i64 0, .int .i64 0, .int .i64 0, .int .i64 0, .int .i64 0] 27 (0, 0)) (by (with_reducible repeat (first | refine blk_drewN ?_ _ | refine blk_drew ?_ | refine blk_alloc ?_ _)); exact BK207.out) hg (Kd.R_ne HO_7.out BK207.out (by decide))); have n2_ := Aside0.mk (Kd.R_after (ok := (fun _ => True)) (by (with_reducible repeat (first | apply Kd.R_alloc | apply Kd.R_drewN | apply Kd.R_drew)); exact HO225.out) hg hat); have n3_ := Aside0.mk (hb); have n4_ := Aside0.mk (ho); clear HO_4; clear BK207; clear HO225; clear HB; clear HO_7; have HO_4 := n0_; have BK207 := n1_; have HO225 := n2_; have HB := n3_; have HO228 := n4_; clear n0_ n1_ n2_ n3_ n4_; clear ho hb hg hat))
                  go_loopg [9] k2 (fun kq v9 w' => ∃ (x9_3 : Int) (x208000_3 : Int) (x208001_3 : Int) (x208002_3 : Int) (x208003_3 : Int) (x208004_3 : Int) (x208005_3 : Int), v9 = .int .i64 x9_3 ∧ Aside0 (spec_ParseStmt.l1 kq x6_2 y226 x9_3 = some (r1, r2, r3, r4, r5, r6, r7)) ∧ Aside0 (kq ≤ k2) ∧ Aside0 (Kd.R (Kd.int .i64) 3 w' w.heap.size (fun _ => True) v227 y226) ∧ Aside0 (w'.heap[gb207]? = some (.cells #[.int .i64 x208000_3, .int .i64 x208001_3, .int .i64 x208002_3, .int .i64 x208003_3, .int .i64 x208004_3, .int .i64 x208005_3] 27 (0, 0))) ∧ Aside0 (Below w.heap.size w w'))
                  case atStart => exact ⟨(1), (0), (0), (0), (0), (0), (0), (by first | rfl | (simp; done) | (simp [*]; done)), H', ⟨Nat.le_refl _⟩, ⟨by (with_reducible repeat (first | apply Kd.R_alloc | apply Kd.R_drewN | apply Kd.R_drew)); exact Kd.R_mono HO228.out (fun _ hk => trivial)⟩, ⟨by (with_reducible repeat (first | refine blk_drewN ?_ _ | refine blk_drew ?_ | refine blk_alloc ?_ _)); exact BK207.out⟩, ⟨by repeat (first | (with_reducible first | exact HB.out | apply below_alloc | apply pw_below_drewN | apply below_drew1 | refine below_set ?_ GE207.out) | exact HB.out)⟩⟩
                  case round =>
                    clear H'
                    try clear c1
                    try clear c2
                    try clear p2
                    try clear q2
                    try clear hx2
                    try clear qi2
                    try clear c6
                    try clear p6
                    try clear c9
                    try clear c11
                    try clear c11b0
                    try clear c11b1
                    try clear c15
                    try clear c15b0
                    try clear c16
                    try clear c16b0
                    try clear c16b1
                    try clear c16b2
                    try clear c17
                    try clear c17b0
                    try clear c18
                    try clear c18b0
                    try clear c18b1
                    try clear c18b2
                    try clear c19
                    try clear c20
                    try clear p21
                    try clear q21
                    try clear hx21
                    try clear qi21
                    try clear c22
                    try clear c23
                    try clear hcz10_0
                    try clear hcz10_1
                    try clear hcz10_2
                    try clear hcz10_3
                    try clear hcz10_4
                    try clear hcz10_5
                    try clear hfz10_0
                    try clear hfz10_1
                    try clear hfz10_2
                    try clear hfz10_3
                    try clear hfz10_4
                    try clear hfz10_5
                    try clear hx213_0
                    try clear hx217_0
                    try clear hx218_0
                    try clear p2
                    try clear p213
                    try clear p217
                    try clear p218
                    try clear q2
                    try clear q213
                    try clear q217
                    try clear q218
                    obtain ⟨x9_3, x208000_3, x208001_3, x208002_3, x208003_3, x208004_3, x208005_3, rfl, HA, HK3, HO_7, BK207, HB⟩ := hrel
                    cases gk with
                    | zero => exact absurd HA.out (by simp [spec_ParseStmt.l1])
                    | succ k3 =>
                      have H := HA.out
                      clear HA
                      simp only [spec_ParseStmt.l1] at H
                      by_cases c27 : x9_3 ≤ 6
                      · rw [if_pos c27] at H
                        have c27b0 : decide (x9_3 ≤ 6) = true := decide_eq_true c27
                        clear c27
                        by_cases c28 : 0 < (y226.length : Int)
                        · rw [if_pos c28] at H
                          have c28b0 : decide (0 < (y226.length : Int)) = true := decide_eq_true c28
                          have c28b1 : decide (0 < y226.length) = true := decide_eq_true (by omega)
                          clear c28
                          by_cases c29 : 1 < (y226.length : Int)
                          · rw [if_pos c29] at H
                            have c29b0 : decide (1 < (y226.length : Int)) = true := decide_eq_true c29
                            have c29b1 : decide (1 < y226.length) = true := decide_eq_true (by omega)
                            clear c29
                            by_cases c30 : 2 < (y226.length : Int)
                            · rw [if_pos c30] at H
                              have c30b0 : decide (2 < (y226.length : Int)) = true := decide_eq_true c30
                              have c30b1 : decide (2 < y226.length) = true := decide_eq_true (by omega)
                              clear c30
                              by_cases c31 : 3 < (y226.length : Int)
                              · rw [if_pos c31] at H
                                have c31b0 : decide (3 < (y226.length : Int)) = true := decide_eq_true c31
                                have c31b1 : decide (3 < y226.length) = true := decide_eq_true (by omega)
                                clear c31
                                replace H := Option.bind_eq_some_iff.mp H
                                obtain ⟨⟨t234, t235, t236, t237, t238, t239⟩, A320, H⟩ := H
                                replace H : (if x9_3 = 3 then (spec_ParseStmt.j3 k3 x6_2 y226 x9_3 x9_3 (x9_3 == 3) t234 t235 t236 t237 t238 t239) else (spec_ParseStmt.j3 k3 x6_2 y226 x9_3 x9_3 (x9_3 == 4) t234 t235 t236 t237 t238 t239)) = some (r1, r2, r3, r4, r5, r6, r7) := H
                                have A32 := Aside0.mk A320
                                clear A320
                                have HC33 := Aside0.mk H
                                clear H
                                try go_wp2
                                have n0_ := Aside0.mk (Kd.R_drew HO_7.out)
                                have n1_ := Aside0.mk (blk_drew BK207.out)
                                have n2_ := Aside0.mk (below_drew1 HB.out)
                                clear HO_7
                                clear BK207
                                clear HB
                                have HO_7 := n0_
                                have BK207 := n1_
                                have HB := n2_
                                clear n0_ n1_ n2_
                                obtain ⟨Ao35, co35, eo35⟩ := Kd.R_slice HO_7.out
                                (first | subst eo35 | (injection eo35 with f1_ f2_ f3_; have f4_ := f1_.symm; have f5_ := f3_.symm; clear f1_ f2_ f3_; subst f4_; subst f5_))
                                have p229 : 0 ≤ (0 : Int) := (by omega)
                                have q229 : 0 < (y226.length : Int) := of_decide_eq_true (by first | (with_reducible assumption) | assumption)
                                obtain ⟨ad229, e229, hx229_0⟩ := Kd.at_int (Kd.R_reads' HO_7.out).2.2 0 p229 q229
                                cases e229
                                have qi229 : (0 < y226.length) = True := eq_true (by omega)
                                (try rw [show ((0 : Int)).toNat = 0 from rfl] at hx229_0)
                                (try rw [Addr.add_zero'] at hx229_0)
                                replace p229 := eq_true p229
                                replace q229 := eq_true q229
                                have p230 : 0 ≤ (1 : Int) := (by omega)
                                have q230 : 1 < (y226.length : Int) := of_decide_eq_true (by first | (with_reducible assumption) | assumption)
                                obtain ⟨ad230, e230, hx230_0⟩ := Kd.at_int (Kd.R_reads' HO_7.out).2.2 1 p230 q230
                                obtain rfl : ad229 = ad230 := (by injection e230)
                                (try simp only [show (1 : Int).toNat = 1 from rfl, Nat.reduceMul, Nat.reduceEqDiff, Go.Addr.add, ↓reduceIte] at hx230_0)
                                have qi230 : (1 < y226.length) = True := eq_true (by omega)
                                (try rw [show ((1 : Int)).toNat = 1 from rfl] at hx230_0)
                                replace p230 := eq_true p230
                                replace q230 := eq_true q230
                                have p231 : 0 ≤ (1 : Int) := (by omega)
                                have q231 : 1 < (y226.length : Int) := of_decide_eq_true (by first | (with_reducible assumption) | assumption)
                                obtain ⟨ad231, e231, hx231_0⟩ := Kd.at_int (Kd.R_reads' HO_7.out).2.2 1 p231 q231
                                obtain rfl : ad229 = ad231 := (by injection e231)
                                (try simp only [show (1 : Int).toNat = 1 from rfl, Nat.reduceMul, Nat.reduceEqDiff, Go.Addr.add, ↓reduceIte] at hx231_0)
                                have qi231 : (1 < y226.length) = True := eq_true (by omega)
                                (try rw [show ((1 : Int)).toNat = 1 from rfl] at hx231_0)
                                replace p231 := eq_true p231
                                replace q231 := eq_true q231
                                have p232 : 0 ≤ (2 : Int) := (by omega)
                                have q232 : 2 < (y226.length : Int) := of_decide_eq_true (by first | (with_reducible assumption) | assumption)
                                obtain ⟨ad232, e232, hx232_0⟩ := Kd.at_int (Kd.R_reads' HO_7.out).2.2 2 p232 q232
                                obtain rfl : ad229 = ad232 := (by injection e232)
                                (try simp only [show (2 : Int).toNat = 2 from rfl, Nat.reduceMul, Nat.reduceEqDiff, Go.Addr.add, ↓reduceIte] at hx232_0)
                                have qi232 : (2 < y226.length) = True := eq_true (by omega)
                                (try rw [show ((2 : Int)).toNat = 2 from rfl] at hx232_0)
                                replace p232 := eq_true p232
                                replace q232 := eq_true q232
                                have p233 : 0 ≤ (3 : Int) := (by omega)
                                have q233 : 3 < (y226.length : Int) := of_decide_eq_true (by first | (with_reducible assumption) | assumption)
                                obtain ⟨ad233, e233, hx233_0⟩ := Kd.at_int (Kd.R_reads' HO_7.out).2.2 3 p233 q233
                                obtain rfl : ad229 = ad233 := (by injection e233)
                                (try simp only [show (3 : Int).toNat = 3 from rfl, Nat.reduceMul, Nat.reduceEqDiff, Go.Addr.add, ↓reduceIte] at hx233_0)
                                have qi233 : (3 < y226.length) = True := eq_true (by omega)
                                (try rw [show ((3 : Int)).toNat = 3 from rfl] at hx233_0)
                                replace p233 := eq_true p233
                                replace q233 := eq_true q233
                                refine start_ (n := 21) (S := fun w' => w'.cell? ad229 = some (.int .i64 (rd y226 0)) ∧ w'.cell? ⟨ad229.block, ad229.off + 1, none⟩ = some (.int .i64 (rd y226 1)) ∧ w'.cell? ⟨ad229.block, ad229.off + 1, none⟩ = some (.int .i64 (rd y226 1)) ∧ w'.cell? ⟨ad229.block, ad229.off + 2, none⟩ = some (.int .i64 (rd y226 2)) ∧ w'.cell? ⟨ad229.block, ad229.off + 3, none⟩ = some (.int .i64 (rd y226 3))) (ds := []) #[false, false, false, false, false, false, false, false, false, false, false, false, false, false, false, false, false, false, false, false, false] (by kernel_rfl) rfl rfl ⟨hx229_0, hx230_0, hx231_0, hx232_0, hx233_0⟩ (fun hHeld => ?_); refine with_tabW spec_ParseStmt.tab15 spec_ParseStmt.bits15 (fun HT_ HW_ => ?_)
                                generalize wr.drew = w34 at HO_7 BK207 HB hx229_0 hx230_0 hx231_0 hx232_0 hx233_0 hHeld ⊢
                                refine pure_ (i := 0) (N := some 57) (v := ?_) (a' := ?_) #[true, false, false, false, false, false, false, false, false, false, false, false, false, false, false, false, false, false, false, false, false] rfl rfl (any_of HT_.out (by kernel_rfl)) (fun _ _ _ h => h) (Or.inl ⟨by rfl, ?_⟩) ?_ ?_
                                rotate_left
                                · intro w'
                                  go_simp
                                  with_reducible rfl
                                rotate_left
                                · simp only [Act.put, List.setIfInBounds_toArray, List.set_cons_zero, List.set_cons_succ, i64_w, i32_w]
                                  rfl
                                refine pure_ (i := 1) (N := some 58) (v := ?_) (a' := ?_) #[true, true, false, false, false, false, false, false, false, false, false, false, false, false, false, false, false, false, false, false, false] rfl rfl (any_of HT_.out (by kernel_rfl)) (fun _ _ _ h => h) (Or.inl ⟨by rfl, ?_⟩) ?_ ?_
                                rotate_left
                                · intro w'
                                  go_simp
                                  with_reducible rfl
                                rotate_left
                                · simp only [Act.put, List.setIfInBounds_toArray, List.set_cons_zero, List.set_cons_succ, i64_w, i32_w]
                                  rfl
                                refine pure_ (i := 2) (N := some 59) (v := ?_) (a' := ?_) #[true, true, true, false, false, false, false, false, false, false, false, false, false, false, false, false, false, false, false, false, false] rfl rfl (any_of HT_.out (by kernel_rfl)) (fun _ _ _ h => h) (Or.inl ⟨by rfl, ?_⟩) ?_ ?_
                                rotate_left
                                · intro w'
                                  go_simp
                                  with_reducible rfl
                                rotate_left
                                · simp only [Act.put, List.setIfInBounds_toArray, List.set_cons_zero, List.set_cons_succ, i64_w, i32_w]
                                  rfl
                                refine pure_ (i := 4) (N := some 61) (v := ?_) (a' := ?_) #[true, true, true, false, true, false, false, false, false, false, false, false, false, false, false, false, false, false, false, false, false] rfl rfl (any_of HT_.out (by kernel_rfl)) (fun _ _ _ h => h) (Or.inl ⟨by rfl, ?_⟩) ?_ ?_
                                rotate_left
                                · intro w'
                                  go_simp
                                  with_reducible rfl
                                rotate_left
                                · simp only [Act.put, List.setIfInBounds_toArray, List.set_cons_zero, List.set_cons_succ, i64_w, i32_w]
                                  rfl
                                refine pure_ (i := 5) (N := some 62) (v := ?_) (a' := ?_) #[true, true, true, false, true, true, false, false, false, false, false, false, false, false, false, false, false, false, false, false, false] rfl rfl (any_of HT_.out (by kernel_rfl)) (fun _ _ _ h => h) (Or.inl ⟨by rfl, ?_⟩) ?_ ?_
                                rotate_left
                                · intro w'
                                  go_simp
                                  with_reducible rfl
                                rotate_left
                                · simp only [Act.put, List.setIfInBounds_toArray, List.set_cons_zero, List.set_cons_succ, i64_w, i32_w]
                                  rfl
                                refine pure_ (i := 7) (N := some 64) (v := ?_) (a' := ?_) #[true, true, true, false, true, true, false, true, false, false, false, false, false, false, false, false, false, false, false, false, false] rfl rfl (any_of HT_.out (by kernel_rfl)) (fun _ _ _ h => h) (Or.inl ⟨by rfl, ?_⟩) ?_ ?_
                                rotate_left
                                · intro w'
                                  go_simp
                                  with_reducible rfl
                                rotate_left
                                · simp only [Act.put, List.setIfInBounds_toArray, List.set_cons_zero, List.set_cons_succ, i64_w, i32_w]
                                  rfl
                                refine pure_ (i := 8) (N := some 65) (v := ?_) (a' := ?_) #[true, true, true, false, true, true, false, true, true, false, false, false, false, false, false, false, false, false, false, false, false] rfl rfl (any_of HT_.out (by kernel_rfl)) (fun _ _ _ h => h) (Or.inl ⟨by rfl, ?_⟩) ?_ ?_
                                rotate_left
                                · intro w'
                                  go_simp
                                  with_reducible rfl
                                rotate_left
                                · simp only [Act.put, List.setIfInBounds_toArray, List.set_cons_zero, List.set_cons_succ, i64_w, i32_w]
                                  rfl
                                refine pure_ (i := 10) (N := some 67) (v := ?_) (a' := ?_) #[true, true, true, false, true, true, false, true, true, false, true, false, false, false, false, false, false, false, false, false, false] rfl rfl (any_of HT_.out (by kernel_rfl)) (fun _ _ _ h => h) (Or.inl ⟨by rfl, ?_⟩) ?_ ?_
                                rotate_left
                                · intro w'
                                  go_simp
                                  with_reducible rfl
                                rotate_left
                                · simp only [Act.put, List.setIfInBounds_toArray, List.set_cons_zero, List.set_cons_succ, i64_w, i32_w]
                                  rfl
                                refine pure_ (i := 11) (N := some 68) (v := ?_) (a' := ?_) #[true, true, true, false, true, true, false, true, true, false, true, true, false, false, false, false, false, false, false, false, false] rfl rfl (any_of HT_.out (by kernel_rfl)) (fun _ _ _ h => h) (Or.inl ⟨by rfl, ?_⟩) ?_ ?_
                                rotate_left
                                · intro w'
                                  go_simp
                                  with_reducible rfl
                                rotate_left
                                · simp only [Act.put, List.setIfInBounds_toArray, List.set_cons_zero, List.set_cons_succ, i64_w, i32_w]
                                  rfl
                                refine pure_ (i := 13) (N := some 70) (v := ?_) (a' := ?_) #[true, true, true, false, true, true, false, true, true, false, true, true, false, true, false, false, false, false, false, false, false] rfl rfl (any_of HT_.out (by kernel_rfl)) (fun _ _ _ h => h) (Or.inl ⟨by rfl, ?_⟩) ?_ ?_
                                rotate_left
                                · intro w'
                                  go_simp
                                  with_reducible rfl
                                rotate_left
                                · simp only [Act.put, List.setIfInBounds_toArray, List.set_cons_zero, List.set_cons_succ, i64_w, i32_w]
                                  rfl
                                refine pure_ (i := 14) (N := some 71) (v := ?_) (a' := ?_) #[true, true, true, false, true, true, false, true, true, false, true, true, false, true, true, false, false, false, false, false, false] rfl rfl (any_of HT_.out (by kernel_rfl)) (fun _ _ _ h => h) (Or.inl ⟨by rfl, ?_⟩) ?_ ?_
                                rotate_left
                                · intro w'
                                  go_simp
                                  with_reducible rfl
                                rotate_left
                                · simp only [Act.put, List.setIfInBounds_toArray, List.set_cons_zero, List.set_cons_succ, i64_w, i32_w]
                                  rfl
                                refine take_ (i := 3) (N := some 60) (v := ?_) (a' := ?_) #[true, true, true, true, true, true, false, true, true, false, true, true, false, true, true, false, false, false, false, false, false] rfl rfl (take_ofW HT_.out HW_.out (by kernel_rfl)) (fun _ _ _ h => h) (Or.inl ⟨by rfl, ?_⟩) hHeld ?_ ?_
                                rotate_left
                                · rintro w' ⟨s0, s1, s2, s3, s4⟩
                                  go_simp
                                  with_reducible rfl
                                rotate_left
                                · simp only [Act.put, List.setIfInBounds_toArray, List.set_cons_zero, List.set_cons_succ, i64_w, i32_w]
                                  rfl
                                refine take_ (i := 6) (N := some 63) (v := ?_) (a' := ?_) #[true, true, true, true, true, true, true, true, true, false, true, true, false, true, true, false, false, false, false, false, false] rfl rfl (take_ofW HT_.out HW_.out (by kernel_rfl)) (fun _ _ _ h => h) (Or.inl ⟨by rfl, ?_⟩) hHeld ?_ ?_
                                rotate_left
                                · rintro w' ⟨s0, s1, s2, s3, s4⟩
                                  go_simp
                                  with_reducible rfl
                                rotate_left
                                · simp only [Act.put, List.setIfInBounds_toArray, List.set_cons_zero, List.set_cons_succ, i64_w, i32_w]
                                  rfl
                                refine take_ (i := 9) (N := some 66) (v := ?_) (a' := ?_) #[true, true, true, true, true, true, true, true, true, true, true, true, false, true, true, false, false, false, false, false, false] rfl rfl (take_ofW HT_.out HW_.out (by kernel_rfl)) (fun _ _ _ h => h) (Or.inl ⟨by rfl, ?_⟩) hHeld ?_ ?_
                                rotate_left
                                · rintro w' ⟨s0, s1, s2, s3, s4⟩
                                  go_simp
                                  with_reducible rfl
                                rotate_left
                                · simp only [Act.put, List.setIfInBounds_toArray, List.set_cons_zero, List.set_cons_succ, i64_w, i32_w]
                                  rfl
                                refine take_ (i := 12) (N := some 69) (v := ?_) (a' := ?_) #[true, true, true, true, true, true, true, true, true, true, true, true, true, true, true, false, false, false, false, false, false] rfl rfl (take_ofW HT_.out HW_.out (by kernel_rfl)) (fun _ _ _ h => h) (Or.inl ⟨by rfl, ?_⟩) hHeld ?_ ?_
                                rotate_left
                                · rintro w' ⟨s0, s1, s2, s3, s4⟩
                                  go_simp
                                  with_reducible rfl
                                rotate_left
                                · simp only [Act.put, List.setIfInBounds_toArray, List.set_cons_zero, List.set_cons_succ, i64_w, i32_w]
                                  rfl
                                refine take_ (i := 15) (N := some 72) (v := ?_) (a' := ?_) #[true, true, true, true, true, true, true, true, true, true, true, true, true, true, true, true, false, false, false, false, false] rfl rfl (take_ofW HT_.out HW_.out (by kernel_rfl)) (fun _ _ _ h => h) (Or.inl ⟨by rfl, ?_⟩) hHeld ?_ ?_
                                rotate_left
                                · rintro w' ⟨s0, s1, s2, s3, s4⟩
                                  go_simp
                                  with_reducible rfl
                                rotate_left
                                · simp only [Act.put, List.setIfInBounds_toArray, List.set_cons_zero, List.set_cons_succ, i64_w, i32_w]
                                  rfl
                                refine pure_ (i := 16) (N := some 73) (v := ?_) (a' := ?_) #[true, true, true, true, true, true, true, true, true, true, true, true, true, true, true, true, true, false, false, false, false] rfl rfl (any_of HT_.out (by kernel_rfl)) (fun _ _ _ h => h) (Or.inl ⟨by rfl, ?_⟩) ?_ ?_
                                rotate_left
                                · intro w'
                                  go_simp
                                  with_reducible rfl
                                rotate_left
                                · simp only [Act.put, List.setIfInBounds_toArray, List.set_cons_zero, List.set_cons_succ, i64_w, i32_w]
                                  rfl
                                refine pure_ (i := 17) (N := some 74) (v := ?_) (a' := ?_) #[true, true, true, true, true, true, true, true, true, true, true, true, true, true, true, true, true, true, false, false, false] rfl rfl (any_of HT_.out (by kernel_rfl)) (fun _ _ _ h => h) (Or.inl ⟨by rfl, ?_⟩) ?_ ?_
                                rotate_left
                                · intro w'
                                  go_simp
                                  with_reducible rfl
                                rotate_left
                                · simp only [Act.put, List.setIfInBounds_toArray, List.set_cons_zero, List.set_cons_succ, i64_w, i32_w]
                                  rfl
                                refine join_ (σ := Nat) 1 #[true, true, true, true, true, true, true, true, true, true, true, true, true, true, true, true, true, true, true, true, false] (fun s_ => [(75, .agg #[.int .i64 t234, .int .i64 t235, .int .i64 t236, .int .i64 t237, .int .i64 t238, .int .i64 t239]), (10, .pointer (some ⟨s_, 0, none⟩))]) (fun s_ w' => (w'.cell? ad229 = some (.int .i64 (rd y226 0)) ∧ w'.cell? ⟨ad229.block, ad229.off + 1, none⟩ = some (.int .i64 (rd y226 1)) ∧ w'.cell? ⟨ad229.block, ad229.off + 1, none⟩ = some (.int .i64 (rd y226 1)) ∧ w'.cell? ⟨ad229.block, ad229.off + 2, none⟩ = some (.int .i64 (rd y226 2)) ∧ w'.cell? ⟨ad229.block, ad229.off + 3, none⟩ = some (.int .i64 (rd y226 3))) ∧ (Kd.R (Kd.int .i64) 3 w' w.heap.size (fun _ => True) (.slice (some ad229) y226.length co35) y226) ∧ (w'.heap[gb207]? = some (.cells #[.int .i64 x208000_3, .int .i64 x208001_3, .int .i64 x208002_3, .int .i64 x208003_3, .int .i64 x208004_3, .int .i64 x208005_3] 27 (0, 0))) ∧ (w'.heap[s_]? = some (.cells #[.int .i64 0, .int .i64 0, .int .i64 0, .int .i64 0, .int .i64 0, .int .i64 0] 27 (0, 0))) ∧ (w.heap.size ≤ s_) ∧ (w.heap.size ≤ s_) ∧ (gb207 ≠ s_) ∧ (s_ ≠ gb207) ∧ (Below w.heap.size w w')) ?_ ?_
                                rotate_left
                                · intro hCont
                                  refine two_ (i := 18) (j := 19) (Ni := some 75) (Nj := some 10) #[true, true, true, true, true, true, true, true, true, true, true, true, true, true, true, true, true, true, true, false, false] #[true, true, true, true, true, true, true, true, true, true, true, true, true, true, true, true, true, true, false, true, false] rfl rfl rfl rfl (two_of HT_.out (by kernel_rfl)) (by decide) (by decide) (fun K hK => ?_) (fun K hK => ?_)
                                  · skip
                                    refine goes_ Tryd.func63 (by kernel_rfl) rfl #[.agg #[.int .i64 x9_3, .int .i64 (rd y226 0), .int .i64 (rd y226 1), .int .i64 (rd y226 1), .int .i64 (rd y226 2), .int .i64 (rd y226 3)]] (by rfl) rfl rfl (by (try simp only [List.map_toArray, List.map_cons, List.map_nil]); first | done | rfl | (simp only [List.length_drop, List.length_take]; rfl)) ?_
                                    with_reducible refine (spec_l04Plain.calls x9_3 (rd y226 0) (rd y226 1) (rd y226 1) (rd y226 2) (rd y226 3) t234 t235 t236 t237 t238 t239 _ A32.out).mono ?_
                                    rintro e w36 ⟨rfl, hb⟩
                                    have HS0_ := (hb.cell (World.block_lt_of_cell? _ _ (hHeld.1))).trans (hHeld.1)
                                    have HS1_ := (hb.cell (World.block_lt_of_cell? _ _ (hHeld.2.1))).trans (hHeld.2.1)
                                    have HS2_ := (hb.cell (World.block_lt_of_cell? _ _ (hHeld.2.2.1))).trans (hHeld.2.2.1)
                                    have HS3_ := (hb.cell (World.block_lt_of_cell? _ _ (hHeld.2.2.2.1))).trans (hHeld.2.2.2.1)
                                    have HS4_ := (hb.cell (World.block_lt_of_cell? _ _ (hHeld.2.2.2.2))).trans (hHeld.2.2.2.2)
                                    refine ⟨_, rfl, ?_⟩
                                    have n0_ := Aside0.mk (Kd.R_below (by (with_reducible repeat (first | apply Kd.R_alloc | apply Kd.R_drewN | apply Kd.R_drew)); exact HO_7.out) hb)
                                    have n1_ := Aside0.mk (blk_below (g := gb207) (o := .cells #[.int .i64 x208000_3, .int .i64 x208001_3, .int .i64 x208002_3, .int .i64 x208003_3, .int .i64 x208004_3, .int .i64 x208005_3] 27 (0, 0)) (by (with_reducible repeat (first | refine blk_drewN ?_ _ | refine blk_drew ?_ | refine blk_alloc ?_ _)); exact BK207.out) hb)
                                    have n2_ := Aside0.mk (below_step (by repeat (first | (with_reducible first | exact HB.out | apply below_alloc | apply pw_below_drewN | apply below_drew1 | refine below_set ?_ GE207.out) | exact HB.out)) hb)
                                    clear HO_7
                                    clear BK207
                                    clear HB
                                    have HO_7 := n0_
                                    have BK207 := n1_
                                    have HB := n2_
                                    clear n0_ n1_ n2_
                                    (try clear hb)
                                    (try clear hb2)
                                    (try clear hk)
                                    (try clear hi)
                                    refine hK.out _ _ ⟨HS0_, HS1_, HS2_, HS3_, HS4_⟩ (fun hHeld => ?_)
                                    clear hK K
                                    refine norm_ (a' := ?_) ?_ ?_
                                    rotate_left
                                    · show Act.put _ (some 75) _ = _
                                      simp only [Act.put, List.setIfInBounds_toArray, List.set_cons_zero, List.set_cons_succ, i64_w, i32_w]
                                      rfl
                                    refine one_ (i := 19) (N := some 10) #[true, true, true, true, true, true, true, true, true, true, true, true, true, true, true, true, true, true, true, true, false] rfl rfl (one_of HT_.out (by kernel_rfl)) (by decide) (fun K hK => ?_)
                                    refine box_step ?hg (N := 10) ?hd (cs := #[.int .i64 0, .int .i64 0, .int .i64 0, .int .i64 0, .int .i64 0, .int .i64 0]) (t := 27) ?hr ?_; (case hd => rfl); (case hg => rfl); (case hr => first | (go_simp; done) | (go_simp; rfl))
                                    intro gb240 hg w37 hbox hb
                                    have HS0_ := (hb.cell (World.block_lt_of_cell? _ _ (hHeld.1))).trans (hHeld.1)
                                    have HS1_ := (hb.cell (World.block_lt_of_cell? _ _ (hHeld.2.1))).trans (hHeld.2.1)
                                    have HS2_ := (hb.cell (World.block_lt_of_cell? _ _ (hHeld.2.2.1))).trans (hHeld.2.2.1)
                                    have HS3_ := (hb.cell (World.block_lt_of_cell? _ _ (hHeld.2.2.2.1))).trans (hHeld.2.2.2.1)
                                    have HS4_ := (hb.cell (World.block_lt_of_cell? _ _ (hHeld.2.2.2.2))).trans (hHeld.2.2.2.2)
                                    have n0_ := Aside0.mk (Kd.R_below (by (with_reducible repeat (first | apply Kd.R_alloc | apply Kd.R_drewN | apply Kd.R_drew)); exact HO_7.out) hb)
                                    have n1_ := Aside0.mk (blk_below (g := gb207) (o := .cells #[.int .i64 x208000_3, .int .i64 x208001_3, .int .i64 x208002_3, .int .i64 x208003_3, .int .i64 x208004_3, .int .i64 x208005_3] 27 (0, 0)) (by (with_reducible repeat (first | refine blk_drewN ?_ _ | refine blk_drew ?_ | refine blk_alloc ?_ _)); exact BK207.out) hb)
                                    have n2_ := Aside0.mk (below_step (by repeat (first | (with_reducible first | exact HB.out | apply below_alloc | apply pw_below_drewN | apply below_drew1 | refine below_set ?_ GE207.out) | exact HB.out)) hb)
                                    have n3_ := Aside0.mk (hbox)
                                    have n4_ := Aside0.mk ((by rw [hg]; exact (below_size (by repeat (first | (with_reducible first | exact HB.out | apply below_alloc | apply pw_below_drewN | apply below_drew1 | refine below_set ?_ GE207.out) | exact HB.out))) : w.heap.size ≤ gb240))
                                    have n5_ := Aside0.mk ((by rw [hg]; exact (below_size (by repeat (first | (with_reducible first | exact HB.out | apply below_alloc | apply pw_below_drewN | apply below_drew1 | refine below_set ?_ GE207.out) | exact HB.out))) : w.heap.size ≤ gb240))
                                    have n6_ := Aside0.mk ((by rw [hg]; exact Nat.ne_of_lt (blk_lt (g := gb207) (o := .cells #[.int .i64 x208000_3, .int .i64 x208001_3, .int .i64 x208002_3, .int .i64 x208003_3, .int .i64 x208004_3, .int .i64 x208005_3] 27 (0, 0)) (by (with_reducible repeat (first | refine blk_drewN ?_ _ | refine blk_drew ?_ | refine blk_alloc ?_ _)); exact BK207.out)) : gb207 ≠ gb240))
                                    have n7_ := Aside0.mk ((by rw [hg]; exact Nat.ne_of_gt (blk_lt (g := gb207) (o := .cells #[.int .i64 x208000_3, .int .i64 x208001_3, .int .i64 x208002_3, .int .i64 x208003_3, .int .i64 x208004_3, .int .i64 x208005_3] 27 (0, 0)) (by (with_reducible repeat (first | refine blk_drewN ?_ _ | refine blk_drew ?_ | refine blk_alloc ?_ _)); exact BK207.out)) : gb240 ≠ gb207))
                                    clear HO_7
                                    clear BK207
                                    clear HB
                                    have HO_7 := n0_
                                    have BK207 := n1_
                                    have HB := n2_
                                    have BK240 := n3_
                                    have GW240 := n4_
                                    have GE240 := n5_
                                    have NB207_240 := n6_
                                    have NB240_207 := n7_
                                    clear n0_ n1_ n2_ n3_ n4_ n5_ n6_ n7_
                                    clear hb hbox hg
                                    refine hK.out _ _ ⟨HS0_, HS1_, HS2_, HS3_, HS4_⟩ (fun hHeld => ?_)
                                    clear hK K
                                    refine norm_ (a' := ?_) ?_ ?_
                                    rotate_left
                                    · show Act.put _ (some 10) _ = _
                                      simp only [Act.put, List.setIfInBounds_toArray, List.set_cons_zero, List.set_cons_succ, i64_w, i32_w]
                                      rfl
                                    exact norm_ (by simp only [putAll, Act.put, List.setIfInBounds_toArray, List.set_cons_zero, List.set_cons_succ]) (hCont (gb240) _ ⟨hHeld, (by (with_reducible repeat (first | apply Kd.R_alloc | apply Kd.R_drewN | apply Kd.R_drew)); exact HO_7.out), (by (with_reducible repeat (first | refine blk_drewN ?_ _ | refine blk_drew ?_ | refine blk_alloc ?_ _)); exact BK207.out), (by (with_reducible repeat (first | refine blk_drewN ?_ _ | refine blk_drew ?_ | refine blk_alloc ?_ _)); exact BK240.out), GW240.out, GE240.out, NB207_240.out, NB240_207.out, (by repeat (first | (with_reducible first | exact HB.out | apply below_alloc | apply pw_below_drewN | apply below_drew1 | refine below_set ?_ GE207.out | refine below_set ?_ GE240.out) | exact HB.out))⟩)
                                  · skip
                                    refine box_step ?hg (N := 10) ?hd (cs := #[.int .i64 0, .int .i64 0, .int .i64 0, .int .i64 0, .int .i64 0, .int .i64 0]) (t := 27) ?hr ?_; (case hd => rfl); (case hg => rfl); (case hr => first | (go_simp; done) | (go_simp; rfl))
                                    intro gb240 hg w36 hbox hb
                                    have HS0_ := (hb.cell (World.block_lt_of_cell? _ _ (hHeld.1))).trans (hHeld.1)
                                    have HS1_ := (hb.cell (World.block_lt_of_cell? _ _ (hHeld.2.1))).trans (hHeld.2.1)
                                    have HS2_ := (hb.cell (World.block_lt_of_cell? _ _ (hHeld.2.2.1))).trans (hHeld.2.2.1)
                                    have HS3_ := (hb.cell (World.block_lt_of_cell? _ _ (hHeld.2.2.2.1))).trans (hHeld.2.2.2.1)
                                    have HS4_ := (hb.cell (World.block_lt_of_cell? _ _ (hHeld.2.2.2.2))).trans (hHeld.2.2.2.2)
                                    have n0_ := Aside0.mk (Kd.R_below (by (with_reducible repeat (first | apply Kd.R_alloc | apply Kd.R_drewN | apply Kd.R_drew)); exact HO_7.out) hb)
                                    have n1_ := Aside0.mk (blk_below (g := gb207) (o := .cells #[.int .i64 x208000_3, .int .i64 x208001_3, .int .i64 x208002_3, .int .i64 x208003_3, .int .i64 x208004_3, .int .i64 x208005_3] 27 (0, 0)) (by (with_reducible repeat (first | refine blk_drewN ?_ _ | refine blk_drew ?_ | refine blk_alloc ?_ _)); exact BK207.out) hb)
                                    have n2_ := Aside0.mk (below_step (by repeat (first | (with_reducible first | exact HB.out | apply below_alloc | apply pw_below_drewN | apply below_drew1 | refine below_set ?_ GE207.out) | exact HB.out)) hb)
                                    have n3_ := Aside0.mk (hbox)
                                    have n4_ := Aside0.mk ((by rw [hg]; exact (below_size (by repeat (first | (with_reducible first | exact HB.out | apply below_alloc | apply pw_below_drewN | apply below_drew1 | refine below_set ?_ GE207.out) | exact HB.out))) : w.heap.size ≤ gb240))
                                    have n5_ := Aside0.mk ((by rw [hg]; exact (below_size (by repeat (first | (with_reducible first | exact HB.out | apply below_alloc | apply pw_below_drewN | apply below_drew1 | refine below_set ?_ GE207.out) | exact HB.out))) : w.heap.size ≤ gb240))
                                    have n6_ := Aside0.mk ((by rw [hg]; exact Nat.ne_of_lt (blk_lt (g := gb207) (o := .cells #[.int .i64 x208000_3, .int .i64 x208001_3, .int .i64 x208002_3, .int .i64 x208003_3, .int .i64 x208004_3, .int .i64 x208005_3] 27 (0, 0)) (by (with_reducible repeat (first | refine blk_drewN ?_ _ | refine blk_drew ?_ | refine blk_alloc ?_ _)); exact BK207.out)) : gb207 ≠ gb240))
                                    have n7_ := Aside0.mk ((by rw [hg]; exact Nat.ne_of_gt (blk_lt (g := gb207) (o := .cells #[.int .i64 x208000_3, .int .i64 x208001_3, .int .i64 x208002_3, .int .i64 x208003_3, .int .i64 x208004_3, .int .i64 x208005_3] 27 (0, 0)) (by (with_reducible repeat (first | refine blk_drewN ?_ _ | refine blk_drew ?_ | refine blk_alloc ?_ _)); exact BK207.out)) : gb240 ≠ gb207))
                                    clear HO_7
                                    clear BK207
                                    clear HB
                                    have HO_7 := n0_
                                    have BK207 := n1_
                                    have HB := n2_
                                    have BK240 := n3_
                                    have GW240 := n4_
                                    have GE240 := n5_
                                    have NB207_240 := n6_
                                    have NB240_207 := n7_
                                    clear n0_ n1_ n2_ n3_ n4_ n5_ n6_ n7_
                                    clear hb hbox hg
                                    refine hK.out _ _ ⟨HS0_, HS1_, HS2_, HS3_, HS4_⟩ (fun hHeld => ?_)
                                    clear hK K
                                    refine norm_ (a' := ?_) ?_ ?_
                                    rotate_left
                                    · show Act.put _ (some 10) _ = _
                                      simp only [Act.put, List.setIfInBounds_toArray, List.set_cons_zero, List.set_cons_succ, i64_w, i32_w]
                                      rfl
                                    refine one_ (i := 18) (N := some 75) #[true, true, true, true, true, true, true, true, true, true, true, true, true, true, true, true, true, true, true, true, false] rfl rfl (one_of HT_.out (by kernel_rfl)) (by decide) (fun K hK => ?_)
                                    refine goes_ Tryd.func63 (by kernel_rfl) rfl #[.agg #[.int .i64 x9_3, .int .i64 (rd y226 0), .int .i64 (rd y226 1), .int .i64 (rd y226 1), .int .i64 (rd y226 2), .int .i64 (rd y226 3)]] (by rfl) rfl rfl (by (try simp only [List.map_toArray, List.map_cons, List.map_nil]); first | done | rfl | (simp only [List.length_drop, List.length_take]; rfl)) ?_
                                    with_reducible refine (spec_l04Plain.calls x9_3 (rd y226 0) (rd y226 1) (rd y226 1) (rd y226 2) (rd y226 3) t234 t235 t236 t237 t238 t239 _ A32.out).mono ?_
                                    rintro e w37 ⟨rfl, hb⟩
                                    have HS0_ := (hb.cell (World.block_lt_of_cell? _ _ (hHeld.1))).trans (hHeld.1)
                                    have HS1_ := (hb.cell (World.block_lt_of_cell? _ _ (hHeld.2.1))).trans (hHeld.2.1)
                                    have HS2_ := (hb.cell (World.block_lt_of_cell? _ _ (hHeld.2.2.1))).trans (hHeld.2.2.1)
                                    have HS3_ := (hb.cell (World.block_lt_of_cell? _ _ (hHeld.2.2.2.1))).trans (hHeld.2.2.2.1)
                                    have HS4_ := (hb.cell (World.block_lt_of_cell? _ _ (hHeld.2.2.2.2))).trans (hHeld.2.2.2.2)
                                    refine ⟨_, rfl, ?_⟩
                                    have n0_ := Aside0.mk (Kd.R_below (by (with_reducible repeat (first | apply Kd.R_alloc | apply Kd.R_drewN | apply Kd.R_drew)); exact HO_7.out) hb)
                                    have n1_ := Aside0.mk (blk_below (g := gb207) (o := .cells #[.int .i64 x208000_3, .int .i64 x208001_3, .int .i64 x208002_3, .int .i64 x208003_3, .int .i64 x208004_3, .int .i64 x208005_3] 27 (0, 0)) (by (with_reducible repeat (first | refine blk_drewN ?_ _ | refine blk_drew ?_ | refine blk_alloc ?_ _)); exact BK207.out) hb)
                                    have n2_ := Aside0.mk (blk_below (g := gb240) (o := .cells #[.int .i64 0, .int .i64 0, .int .i64 0, .int .i64 0, .int .i64 0, .int .i64 0] 27 (0, 0)) (by (with_reducible repeat (first | refine blk_drewN ?_ _ | refine blk_drew ?_ | refine blk_alloc ?_ _)); exact BK240.out) hb)
                                    have n3_ := Aside0.mk (below_step (by repeat (first | (with_reducible first | exact HB.out | apply below_alloc | apply pw_below_drewN | apply below_drew1 | refine below_set ?_ GE207.out | refine below_set ?_ GE240.out) | exact HB.out)) hb)
                                    clear HO_7
                                    clear BK207
                                    clear BK240
                                    clear HB
                                    have HO_7 := n0_
                                    have BK207 := n1_
                                    have BK240 := n2_
                                    have HB := n3_
                                    clear n0_ n1_ n2_ n3_
                                    (try clear hb)
                                    (try clear hb2)
                                    (try clear hk)
                                    (try clear hi)
                                    refine hK.out _ _ ⟨HS0_, HS1_, HS2_, HS3_, HS4_⟩ (fun hHeld => ?_)
                                    clear hK K
                                    refine norm_ (a' := ?_) ?_ ?_
                                    rotate_left
                                    · show Act.put _ (some 75) _ = _
                                      simp only [Act.put, List.setIfInBounds_toArray, List.set_cons_zero, List.set_cons_succ, i64_w, i32_w]
                                      rfl
                                    exact norm_ (by simp only [putAll, Act.put, List.setIfInBounds_toArray, List.set_cons_zero, List.set_cons_succ]) (hCont (gb240) _ ⟨hHeld, (by (with_reducible repeat (first | apply Kd.R_alloc | apply Kd.R_drewN | apply Kd.R_drew)); exact HO_7.out), (by (with_reducible repeat (first | refine blk_drewN ?_ _ | refine blk_drew ?_ | refine blk_alloc ?_ _)); exact BK207.out), (by (with_reducible repeat (first | refine blk_drewN ?_ _ | refine blk_drew ?_ | refine blk_alloc ?_ _)); exact BK240.out), GW240.out, GE240.out, NB207_240.out, NB240_207.out, (by repeat (first | (with_reducible first | exact HB.out | apply below_alloc | apply pw_below_drewN | apply below_drew1 | refine below_set ?_ GE207.out | refine below_set ?_ GE240.out) | exact HB.out))⟩)
                                rintro gb240 w38 ⟨hS_, h0_, h1_, h2_, h3_, h4_, h5_, h6_, h7_⟩
                                have n0_ : Aside0 (Kd.R (Kd.int .i64) 3 w38 w.heap.size (fun _ => True) (.slice (some ad229) y226.length co35) y226) := ⟨h0_⟩
                                have n1_ : Aside0 (w38.heap[gb207]? = some (.cells #[.int .i64 x208000_3, .int .i64 x208001_3, .int .i64 x208002_3, .int .i64 x208003_3, .int .i64 x208004_3, .int .i64 x208005_3] 27 (0, 0))) := ⟨h1_⟩
                                have n2_ : Aside0 (w38.heap[gb240]? = some (.cells #[.int .i64 0, .int .i64 0, .int .i64 0, .int .i64 0, .int .i64 0, .int .i64 0] 27 (0, 0))) := ⟨h2_⟩
                                have n3_ : Aside0 (w.heap.size ≤ gb240) := ⟨h3_⟩
                                have n4_ : Aside0 (w.heap.size ≤ gb240) := ⟨h4_⟩
                                have n5_ : Aside0 (gb207 ≠ gb240) := ⟨h5_⟩
                                have n6_ : Aside0 (gb240 ≠ gb207) := ⟨h6_⟩
                                have n7_ : Aside0 (Below w.heap.size w w38) := ⟨h7_⟩
                                clear HO_7
                                clear BK207
                                clear HB
                                clear h0_ h1_ h2_ h3_ h4_ h5_ h6_ h7_
                                have HO_7 := n0_
                                have BK207 := n1_
                                have BK240 := n2_
                                have GW240 := n3_
                                have GE240 := n4_
                                have NB207_240 := n5_
                                have NB240_207 := n6_
                                have HB := n7_
                                clear n0_ n1_ n2_ n3_ n4_ n5_ n6_ n7_
                                have hHeld : w38.cell? ad229 = some (.int .i64 (rd y226 0)) ∧ w38.cell? ⟨ad229.block, ad229.off + 1, none⟩ = some (.int .i64 (rd y226 1)) ∧ w38.cell? ⟨ad229.block, ad229.off + 1, none⟩ = some (.int .i64 (rd y226 1)) ∧ w38.cell? ⟨ad229.block, ad229.off + 2, none⟩ = some (.int .i64 (rd y226 2)) ∧ w38.cell? ⟨ad229.block, ad229.off + 3, none⟩ = some (.int .i64 (rd y226 3)) := hS_
                                refine norm_ (a' := ?_) ?_ ?_
                                rotate_left
                                · simp only [putAll, Act.put, List.setIfInBounds_toArray, List.set_cons_zero, List.set_cons_succ]
                                  rfl
                                refine one_ (i := 20) (N := none) #[true, true, true, true, true, true, true, true, true, true, true, true, true, true, true, true, true, true, true, true, true] rfl rfl (one_of HT_.out (by kernel_rfl)) (by decide) (fun K hK => ?_)
                                have hs39 : w38.cell? ⟨gb240, 0, none⟩ = some (.int .i64 0) := (blk_cell BK240.out 0).trans rfl
                                have hfs39 := blk_frozen BK240.out 0
                                have hns39_0 := NB207_240.out
                                have hms39_0 := NB240_207.out
                                have hs40 : w38.cell? ⟨gb240, 1, none⟩ = some (.int .i64 0) := (blk_cell BK240.out 1).trans rfl
                                have hfs40 := blk_frozen BK240.out 1
                                have hns40_0 := NB207_240.out
                                have hms40_0 := NB240_207.out
                                have hs41 : w38.cell? ⟨gb240, 2, none⟩ = some (.int .i64 0) := (blk_cell BK240.out 2).trans rfl
                                have hfs41 := blk_frozen BK240.out 2
                                have hns41_0 := NB207_240.out
                                have hms41_0 := NB240_207.out
                                have hs42 : w38.cell? ⟨gb240, 3, none⟩ = some (.int .i64 0) := (blk_cell BK240.out 3).trans rfl
                                have hfs42 := blk_frozen BK240.out 3
                                have hns42_0 := NB207_240.out
                                have hms42_0 := NB240_207.out
                                have hs43 : w38.cell? ⟨gb240, 4, none⟩ = some (.int .i64 0) := (blk_cell BK240.out 4).trans rfl
                                have hfs43 := blk_frozen BK240.out 4
                                have hns43_0 := NB207_240.out
                                have hms43_0 := NB240_207.out
                                have hs44 : w38.cell? ⟨gb240, 5, none⟩ = some (.int .i64 0) := (blk_cell BK240.out 5).trans rfl
                                have hfs44 := blk_frozen BK240.out 5
                                have hns44_0 := NB207_240.out
                                have hms44_0 := NB240_207.out
                                refine skip_ (w1 := ?_) (by rfl) rfl ?_ ?_
                                rotate_left
                                · go_simp
                                  rfl
                                have hne_ := Kd.own_blk (Kd.R_ne HO_7.out BK240.out (by decide))
                                refine hK.out _ _ ⟨((cell_far (a := ad229) (p := ⟨gb240, _, none⟩) hne_ _).trans (((cell_far (a := ad229) (p := ⟨gb240, _, none⟩) hne_ _).trans (((cell_far (a := ad229) (p := ⟨gb240, _, none⟩) hne_ _).trans (((cell_far (a := ad229) (p := ⟨gb240, _, none⟩) hne_ _).trans (((cell_far (a := ad229) (p := ⟨gb240, _, none⟩) hne_ _).trans (((cell_far (a := ad229) (p := ⟨gb240, _, none⟩) hne_ _).trans (hHeld.1)))))))))))), ((cell_far (a := ⟨ad229.block, ad229.off + 1, none⟩) (p := ⟨gb240, _, none⟩) hne_ _).trans (((cell_far (a := ⟨ad229.block, ad229.off + 1, none⟩) (p := ⟨gb240, _, none⟩) hne_ _).trans (((cell_far (a := ⟨ad229.block, ad229.off + 1, none⟩) (p := ⟨gb240, _, none⟩) hne_ _).trans (((cell_far (a := ⟨ad229.block, ad229.off + 1, none⟩) (p := ⟨gb240, _, none⟩) hne_ _).trans (((cell_far (a := ⟨ad229.block, ad229.off + 1, none⟩) (p := ⟨gb240, _, none⟩) hne_ _).trans (((cell_far (a := ⟨ad229.block, ad229.off + 1, none⟩) (p := ⟨gb240, _, none⟩) hne_ _).trans (hHeld.2.1)))))))))))), ((cell_far (a := ⟨ad229.block, ad229.off + 1, none⟩) (p := ⟨gb240, _, none⟩) hne_ _).trans (((cell_far (a := ⟨ad229.block, ad229.off + 1, none⟩) (p := ⟨gb240, _, none⟩) hne_ _).trans (((cell_far (a := ⟨ad229.block, ad229.off + 1, none⟩) (p := ⟨gb240, _, none⟩) hne_ _).trans (((cell_far (a := ⟨ad229.block, ad229.off + 1, none⟩) (p := ⟨gb240, _, none⟩) hne_ _).trans (((cell_far (a := ⟨ad229.block, ad229.off + 1, none⟩) (p := ⟨gb240, _, none⟩) hne_ _).trans (((cell_far (a := ⟨ad229.block, ad229.off + 1, none⟩) (p := ⟨gb240, _, none⟩) hne_ _).trans (hHeld.2.2.1)))))))))))), ((cell_far (a := ⟨ad229.block, ad229.off + 2, none⟩) (p := ⟨gb240, _, none⟩) hne_ _).trans (((cell_far (a := ⟨ad229.block, ad229.off + 2, none⟩) (p := ⟨gb240, _, none⟩) hne_ _).trans (((cell_far (a := ⟨ad229.block, ad229.off + 2, none⟩) (p := ⟨gb240, _, none⟩) hne_ _).trans (((cell_far (a := ⟨ad229.block, ad229.off + 2, none⟩) (p := ⟨gb240, _, none⟩) hne_ _).trans (((cell_far (a := ⟨ad229.block, ad229.off + 2, none⟩) (p := ⟨gb240, _, none⟩) hne_ _).trans (((cell_far (a := ⟨ad229.block, ad229.off + 2, none⟩) (p := ⟨gb240, _, none⟩) hne_ _).trans (hHeld.2.2.2.1)))))))))))), ((cell_far (a := ⟨ad229.block, ad229.off + 3, none⟩) (p := ⟨gb240, _, none⟩) hne_ _).trans (((cell_far (a := ⟨ad229.block, ad229.off + 3, none⟩) (p := ⟨gb240, _, none⟩) hne_ _).trans (((cell_far (a := ⟨ad229.block, ad229.off + 3, none⟩) (p := ⟨gb240, _, none⟩) hne_ _).trans (((cell_far (a := ⟨ad229.block, ad229.off + 3, none⟩) (p := ⟨gb240, _, none⟩) hne_ _).trans (((cell_far (a := ⟨ad229.block, ad229.off + 3, none⟩) (p := ⟨gb240, _, none⟩) hne_ _).trans (((cell_far (a := ⟨ad229.block, ad229.off + 3, none⟩) (p := ⟨gb240, _, none⟩) hne_ _).trans (hHeld.2.2.2.2))))))))))))⟩ (fun hHeld => ?_)
                                clear hK K
                                refine done_ (done_of HT_.out (by kernel_rfl)) ?_
                                go_upto_block 4 with (fail)
                                go_cut [] (fun wc => ∃ (kq : Nat) (x241002_32 : Int) (x241003_32 : Int) (x241004_32 : Int) (x241005_32 : Int), Aside0 (spec_ParseStmt.j4 kq x6_2 y226 x9_3 t234 t235 x241002_32 x241003_32 x241004_32 x241005_32 = some (r1, r2, r3, r4, r5, r6, r7)) ∧ Aside0 (kq ≤ k3) ∧ Aside0 (Kd.R (Kd.int .i64) 3 wc w.heap.size (fun _ => True) (.slice (some ad229) y226.length co35) y226) ∧ Aside0 (wc.heap[gb207]? = some (.cells #[.int .i64 x208000_3, .int .i64 x208001_3, .int .i64 x208002_3, .int .i64 x208003_3, .int .i64 x208004_3, .int .i64 x208005_3] 27 (0, 0))) ∧ Aside0 (wc.heap[gb240]? = some (.cells #[.int .i64 t234, .int .i64 t235, .int .i64 x241002_32, .int .i64 x241003_32, .int .i64 x241004_32, .int .i64 x241005_32] 27 (0, 0))) ∧ Aside0 (Below w.heap.size w wc))
                                case first =>
                                  have H := HC33.out
                                  clear HC33
                                  have HC45 := Aside0.mk H
                                  clear H
                                  go_upto_if 77 with (fail)
                                  go_cut [77] (fun v77 wc => ∃ (kq : Nat) (x77_44 : Bool), v77 = .bool x77_44 ∧ Aside0 (spec_ParseStmt.j3 kq x6_2 y226 x9_3 x9_3 x77_44 t234 t235 t236 t237 t238 t239 = some (r1, r2, r3, r4, r5, r6, r7)) ∧ Aside0 (kq ≤ k3) ∧ Aside0 (Kd.R (Kd.int .i64) 3 wc w.heap.size (fun _ => True) (.slice (some ad229) y226.length co35) y226) ∧ Aside0 (wc.heap[gb207]? = some (.cells #[.int .i64 x208000_3, .int .i64 x208001_3, .int .i64 x208002_3, .int .i64 x208003_3, .int .i64 x208004_3, .int .i64 x208005_3] 27 (0, 0))) ∧ Aside0 (wc.heap[gb240]? = some (.cells #[.int .i64 t234, .int .i64 t235, .int .i64 t236, .int .i64 t237, .int .i64 t238, .int .i64 t239] 27 (0, 0))) ∧ Aside0 (Below w.heap.size w wc))
                                  case first =>
                                    have H := HC45.out
                                    clear HC45
                                    by_cases c46 : x9_3 = 3
                                    · rw [if_pos c46] at H
                                      have c46b0 : (x9_3 == 3) = true := beq_iff_eq.mpr c46
                                      have c46b1 : (x9_3 != 3) = false := bne_eq_false_iff_eq.mpr c46
                                      clear c46
                                      (first | rw [c46b0] | (simp only [i64_w, i32_w]; rw [c46b0]) | skip)
                                      have H' := Aside0.mk H
                                      clear H
                                      go_wp2
                                      go_meet
                                      case rel => exact ⟨_, ((x9_3 == 3)), (by first | rfl | (simp; done) | (simp [*]; done)), H', ⟨by have := HJ2.out; have := HK2.out; have := HK3.out; first | omega | exact Nat.le_refl _⟩, ⟨by (with_reducible repeat (first | apply Kd.R_alloc | apply Kd.R_drewN | apply Kd.R_drew)); exact Kd.R_mono (Kd.R_far (p := ⟨gb240, 5, none⟩) (Kd.R_far (p := ⟨gb240, 4, none⟩) (Kd.R_far (p := ⟨gb240, 3, none⟩) (Kd.R_far (p := ⟨gb240, 2, none⟩) (Kd.R_far (p := ⟨gb240, 1, none⟩) (Kd.R_far (p := ⟨gb240, 0, none⟩) (Kd.R_types HO_7.out BK240.out (by decide)) (fun _ hk => hk.2) (.int .i64 t234)) (fun _ hk => hk.2) (.int .i64 t235)) (fun _ hk => hk.2) (.int .i64 t236)) (fun _ hk => hk.2) (.int .i64 t237)) (fun _ hk => hk.2) (.int .i64 t238)) (fun _ hk => hk.2) (.int .i64 t239)) (fun _ hk => trivial)⟩, ⟨by (with_reducible repeat (first | refine blk_drewN ?_ _ | refine blk_drew ?_ | refine blk_alloc ?_ _)); refine blk_far ?_ NB207_240.out _; (with_reducible repeat (first | refine blk_drewN ?_ _ | refine blk_drew ?_ | refine blk_alloc ?_ _)); refine blk_far ?_ NB207_240.out _; (with_reducible repeat (first | refine blk_drewN ?_ _ | refine blk_drew ?_ | refine blk_alloc ?_ _)); refine blk_far ?_ NB207_240.out _; (with_reducible repeat (first | refine blk_drewN ?_ _ | refine blk_drew ?_ | refine blk_alloc ?_ _)); refine blk_far ?_ NB207_240.out _; (with_reducible repeat (first | refine blk_drewN ?_ _ | refine blk_drew ?_ | refine blk_alloc ?_ _)); refine blk_far ?_ NB207_240.out _; (with_reducible repeat (first | refine blk_drewN ?_ _ | refine blk_drew ?_ | refine blk_alloc ?_ _)); refine blk_far ?_ NB207_240.out _; (with_reducible repeat (first | refine blk_drewN ?_ _ | refine blk_drew ?_ | refine blk_alloc ?_ _)); exact BK207.out⟩, ⟨by (with_reducible repeat (first | refine blk_drewN ?_ _ | refine blk_drew ?_ | refine blk_alloc ?_ _)); refine blk_put (cs := #[.int .i64 t234, .int .i64 t235, .int .i64 t236, .int .i64 t237, .int .i64 t238, .int .i64 0]) ?_ 5 _ rfl; (with_reducible repeat (first | refine blk_drewN ?_ _ | refine blk_drew ?_ | refine blk_alloc ?_ _)); refine blk_put (cs := #[.int .i64 t234, .int .i64 t235, .int .i64 t236, .int .i64 t237, .int .i64 0, .int .i64 0]) ?_ 4 _ rfl; (with_reducible repeat (first | refine blk_drewN ?_ _ | refine blk_drew ?_ | refine blk_alloc ?_ _)); refine blk_put (cs := #[.int .i64 t234, .int .i64 t235, .int .i64 t236, .int .i64 0, .int .i64 0, .int .i64 0]) ?_ 3 _ rfl; (with_reducible repeat (first | refine blk_drewN ?_ _ | refine blk_drew ?_ | refine blk_alloc ?_ _)); refine blk_put (cs := #[.int .i64 t234, .int .i64 t235, .int .i64 0, .int .i64 0, .int .i64 0, .int .i64 0]) ?_ 2 _ rfl; (with_reducible repeat (first | refine blk_drewN ?_ _ | refine blk_drew ?_ | refine blk_alloc ?_ _)); refine blk_put (cs := #[.int .i64 t234, .int .i64 0, .int .i64 0, .int .i64 0, .int .i64 0, .int .i64 0]) ?_ 1 _ rfl; (with_reducible repeat (first | refine blk_drewN ?_ _ | refine blk_drew ?_ | refine blk_alloc ?_ _)); refine blk_put (cs := #[.int .i64 0, .int .i64 0, .int .i64 0, .int .i64 0, .int .i64 0, .int .i64 0]) ?_ 0 _ rfl; (with_reducible repeat (first | refine blk_drewN ?_ _ | refine blk_drew ?_ | refine blk_alloc ?_ _)); exact BK240.out⟩, ⟨by repeat (first | (with_reducible first | exact HB.out | apply below_alloc | apply pw_below_drewN | apply below_drew1 | refine below_set ?_ GE207.out | refine below_set ?_ GE240.out) | exact HB.out)⟩⟩
                                    · rw [if_neg c46] at H
                                      have c46b0 : (x9_3 == 3) = false := beq_eq_false_iff_ne.mpr c46
                                      have c46b1 : (x9_3 != 3) = true := bne_iff_ne.mpr c46
                                      (first | rw [c46b0] | (simp only [i64_w, i32_w]; rw [c46b0]) | skip)
                                      have H' := Aside0.mk H
                                      clear H
                                      go_wp2
                                      go_meet
                                      case rel => exact ⟨_, ((x9_3 == 4)), (by first | rfl | (simp; done) | (simp [*]; done)), H', ⟨by have := HJ2.out; have := HK2.out; have := HK3.out; first | omega | exact Nat.le_refl _⟩, ⟨by (with_reducible repeat (first | apply Kd.R_alloc | apply Kd.R_drewN | apply Kd.R_drew)); exact Kd.R_mono (Kd.R_far (p := ⟨gb240, 5, none⟩) (Kd.R_far (p := ⟨gb240, 4, none⟩) (Kd.R_far (p := ⟨gb240, 3, none⟩) (Kd.R_far (p := ⟨gb240, 2, none⟩) (Kd.R_far (p := ⟨gb240, 1, none⟩) (Kd.R_far (p := ⟨gb240, 0, none⟩) (Kd.R_types HO_7.out BK240.out (by decide)) (fun _ hk => hk.2) (.int .i64 t234)) (fun _ hk => hk.2) (.int .i64 t235)) (fun _ hk => hk.2) (.int .i64 t236)) (fun _ hk => hk.2) (.int .i64 t237)) (fun _ hk => hk.2) (.int .i64 t238)) (fun _ hk => hk.2) (.int .i64 t239)) (fun _ hk => trivial)⟩, ⟨by (with_reducible repeat (first | refine blk_drewN ?_ _ | refine blk_drew ?_ | refine blk_alloc ?_ _)); refine blk_far ?_ NB207_240.out _; (with_reducible repeat (first | refine blk_drewN ?_ _ | refine blk_drew ?_ | refine blk_alloc ?_ _)); refine blk_far ?_ NB207_240.out _; (with_reducible repeat (first | refine blk_drewN ?_ _ | refine blk_drew ?_ | refine blk_alloc ?_ _)); refine blk_far ?_ NB207_240.out _; (with_reducible repeat (first | refine blk_drewN ?_ _ | refine blk_drew ?_ | refine blk_alloc ?_ _)); refine blk_far ?_ NB207_240.out _; (with_reducible repeat (first | refine blk_drewN ?_ _ | refine blk_drew ?_ | refine blk_alloc ?_ _)); refine blk_far ?_ NB207_240.out _; (with_reducible repeat (first | refine blk_drewN ?_ _ | refine blk_drew ?_ | refine blk_alloc ?_ _)); refine blk_far ?_ NB207_240.out _; (with_reducible repeat (first | refine blk_drewN ?_ _ | refine blk_drew ?_ | refine blk_alloc ?_ _)); exact BK207.out⟩, ⟨by (with_reducible repeat (first | refine blk_drewN ?_ _ | refine blk_drew ?_ | refine blk_alloc ?_ _)); refine blk_put (cs := #[.int .i64 t234, .int .i64 t235, .int .i64 t236, .int .i64 t237, .int .i64 t238, .int .i64 0]) ?_ 5 _ rfl; (with_reducible repeat (first | refine blk_drewN ?_ _ | refine blk_drew ?_ | refine blk_alloc ?_ _)); refine blk_put (cs := #[.int .i64 t234, .int .i64 t235, .int .i64 t236, .int .i64 t237, .int .i64 0, .int .i64 0]) ?_ 4 _ rfl; (with_reducible repeat (first | refine blk_drewN ?_ _ | refine blk_drew ?_ | refine blk_alloc ?_ _)); refine blk_put (cs := #[.int .i64 t234, .int .i64 t235, .int .i64 t236, .int .i64 0, .int .i64 0, .int .i64 0]) ?_ 3 _ rfl; (with_reducible repeat (first | refine blk_drewN ?_ _ | refine blk_drew ?_ | refine blk_alloc ?_ _)); refine blk_put (cs := #[.int .i64 t234, .int .i64 t235, .int .i64 0, .int .i64 0, .int .i64 0, .int .i64 0]) ?_ 2 _ rfl; (with_reducible repeat (first | refine blk_drewN ?_ _ | refine blk_drew ?_ | refine blk_alloc ?_ _)); refine blk_put (cs := #[.int .i64 t234, .int .i64 0, .int .i64 0, .int .i64 0, .int .i64 0, .int .i64 0]) ?_ 1 _ rfl; (with_reducible repeat (first | refine blk_drewN ?_ _ | refine blk_drew ?_ | refine blk_alloc ?_ _)); refine blk_put (cs := #[.int .i64 0, .int .i64 0, .int .i64 0, .int .i64 0, .int .i64 0, .int .i64 0]) ?_ 0 _ rfl; (with_reducible repeat (first | refine blk_drewN ?_ _ | refine blk_drew ?_ | refine blk_alloc ?_ _)); exact BK240.out⟩, ⟨by repeat (first | (with_reducible first | exact HB.out | apply below_alloc | apply pw_below_drewN | apply below_drew1 | refine below_set ?_ GE207.out | refine below_set ?_ GE240.out) | exact HB.out)⟩⟩
                                  case rest =>
                                    clear HC45
                                    try clear c1
                                    try clear c2
                                    try clear p2
                                    try clear q2
                                    try clear hx2
                                    try clear qi2
                                    try clear c3
                                    try clear c4
                                    try clear c6
                                    try clear p6
                                    try clear c9
                                    try clear c11
                                    try clear c11b0
                                    try clear c11b1
                                    try clear c15
                                    try clear c15b0
                                    try clear c16
                                    try clear c16b0
                                    try clear c16b1
                                    try clear c16b2
                                    try clear c17
                                    try clear c17b0
                                    try clear c18
                                    try clear c18b0
                                    try clear c18b1
                                    try clear c18b2
                                    try clear c19
                                    try clear c20
                                    try clear p21
                                    try clear q21
                                    try clear hx21
                                    try clear qi21
                                    try clear c22
                                    try clear p22
                                    try clear q22
                                    try clear hx22
                                    try clear qi22
                                    try clear c23
                                    try clear p23
                                    try clear q23
                                    try clear hx23
                                    try clear qi23
                                    try clear c27
                                    try clear c27b0
                                    try clear c28
                                    try clear c28b0
                                    try clear c28b1
                                    try clear c29
                                    try clear c29b0
                                    try clear c29b1
                                    try clear c30
                                    try clear c30b0
                                    try clear c30b1
                                    try clear c31
                                    try clear c31b0
                                    try clear c31b1
                                    try clear c46
                                    try clear c46b0
                                    try clear c46b1
                                    try clear hcz10_0
                                    try clear hcz10_1
                                    try clear hcz10_2
                                    try clear hcz10_3
                                    try clear hcz10_4
                                    try clear hcz10_5
                                    try clear hfz10_0
                                    try clear hfz10_1
                                    try clear hfz10_2
                                    try clear hfz10_3
                                    try clear hfz10_4
                                    try clear hfz10_5
                                    try clear hx213_0
                                    try clear hx217_0
                                    try clear hx218_0
                                    try clear hx229_0
                                    try clear hx230_0
                                    try clear hx231_0
                                    try clear hx232_0
                                    try clear hx233_0
                                    try clear p2
                                    try clear p21
                                    try clear p213
                                    try clear p217
                                    try clear p218
                                    try clear p229
                                    try clear p230
                                    try clear p231
                                    try clear p232
                                    try clear p233
                                    try clear p6
                                    try clear q2
                                    try clear q21
                                    try clear q213
                                    try clear q217
                                    try clear q218
                                    try clear q229
                                    try clear q230
                                    try clear q231
                                    try clear q232
                                    try clear q233
                                    obtain ⟨kq, x77_44, rfl, HA, HJ44, HO_7, BK207, BK240, HB⟩ := hcut
                                    cases kq with
                                    | zero => exact absurd HA.out (by simp [spec_ParseStmt.j3])
                                    | succ kj44 =>
                                      have H := HA.out
                                      clear HA
                                      simp only [spec_ParseStmt.j3] at H
                                      by_cases c47 : x77_44 = true
                                      · subst c47
                                        have H1 : (if 0 < (y226.length : Int) then (if 1 < (y226.length : Int) then (if 2 < (y226.length : Int) then (spec_ParseStmt.j4 kj44 x6_2 y226 x9_3 t234 t235 t236 (rd y226 0) (rd y226 1) (rd y226 2)) else (none)) else (none)) else (none)) = some (r1, r2, r3, r4, r5, r6, r7) := by rw [if_pos rfl] at H; exact H
                                        clear H
                                        have H := H1
                                        clear H1
                                        by_cases c48 : 0 < (y226.length : Int)
                                        · rw [if_pos c48] at H
                                          have c48b0 : decide (0 < (y226.length : Int)) = true := decide_eq_true c48
                                          have c48b1 : decide (0 < y226.length) = true := decide_eq_true (by omega)
                                          clear c48
                                          by_cases c49 : 1 < (y226.length : Int)
                                          · rw [if_pos c49] at H
                                            have c49b0 : decide (1 < (y226.length : Int)) = true := decide_eq_true c49
                                            have c49b1 : decide (1 < y226.length) = true := decide_eq_true (by omega)
                                            clear c49
                                            by_cases c50 : 2 < (y226.length : Int)
                                            · rw [if_pos c50] at H
                                              have c50b0 : decide (2 < (y226.length : Int)) = true := decide_eq_true c50
                                              have c50b1 : decide (2 < y226.length) = true := decide_eq_true (by omega)
                                              clear c50
                                              have H' := Aside0.mk H
                                              clear H
                                              try go_wp2
                                              have n0_ := Aside0.mk (Kd.R_drew HO_7.out)
                                              have n1_ := Aside0.mk (blk_drew BK207.out)
                                              have n2_ := Aside0.mk (blk_drew BK240.out)
                                              have n3_ := Aside0.mk (below_drew1 HB.out)
                                              clear HO_7
                                              clear BK207
                                              clear BK240
                                              clear HB
                                              have HO_7 := n0_
                                              have BK207 := n1_
                                              have BK240 := n2_
                                              have HB := n3_
                                              clear n0_ n1_ n2_ n3_
                                              have p241 : 0 ≤ (0 : Int) := (by omega)
                                              have q241 : 0 < (y226.length : Int) := of_decide_eq_true (by first | (with_reducible assumption) | assumption)
                                              obtain ⟨ad241, e241, hx241_0⟩ := Kd.at_int (Kd.R_reads' HO_7.out).2.2 0 p241 q241
                                              obtain rfl : ad229 = ad241 := (by injection e241)
                                              have qi241 : (0 < y226.length) = True := eq_true (by omega)
                                              (try rw [show ((0 : Int)).toNat = 0 from rfl] at hx241_0)
                                              (try rw [Addr.add_zero'] at hx241_0)
                                              replace p241 := eq_true p241
                                              replace q241 := eq_true q241
                                              have p242 : 0 ≤ (1 : Int) := (by omega)
                                              have q242 : 1 < (y226.length : Int) := of_decide_eq_true (by first | (with_reducible assumption) | assumption)
                                              obtain ⟨ad242, e242, hx242_0⟩ := Kd.at_int (Kd.R_reads' HO_7.out).2.2 1 p242 q242
                                              obtain rfl : ad229 = ad242 := (by injection e242)
                                              (try simp only [show (1 : Int).toNat = 1 from rfl, Nat.reduceMul, Nat.reduceEqDiff, Go.Addr.add, ↓reduceIte] at hx242_0)
                                              have qi242 : (1 < y226.length) = True := eq_true (by omega)
                                              (try rw [show ((1 : Int)).toNat = 1 from rfl] at hx242_0)
                                              replace p242 := eq_true p242
                                              replace q242 := eq_true q242
                                              have p243 : 0 ≤ (2 : Int) := (by omega)
                                              have q243 : 2 < (y226.length : Int) := of_decide_eq_true (by first | (with_reducible assumption) | assumption)
                                              obtain ⟨ad243, e243, hx243_0⟩ := Kd.at_int (Kd.R_reads' HO_7.out).2.2 2 p243 q243
                                              obtain rfl : ad229 = ad243 := (by injection e243)
                                              (try simp only [show (2 : Int).toNat = 2 from rfl, Nat.reduceMul, Nat.reduceEqDiff, Go.Addr.add, ↓reduceIte] at hx243_0)
                                              have qi243 : (2 < y226.length) = True := eq_true (by omega)
                                              (try rw [show ((2 : Int)).toNat = 2 from rfl] at hx243_0)
                                              replace p243 := eq_true p243
                                              replace q243 := eq_true q243
                                              refine start_ (n := 12) (S := fun w' => w'.cell? ad229 = some (.int .i64 (rd y226 0)) ∧ w'.cell? ⟨ad229.block, ad229.off + 1, none⟩ = some (.int .i64 (rd y226 1)) ∧ w'.cell? ⟨ad229.block, ad229.off + 2, none⟩ = some (.int .i64 (rd y226 2))) (ds := []) #[false, false, false, false, false, false, false, false, false, false, false, false] (by kernel_rfl) rfl rfl ⟨hx241_0, hx242_0, hx243_0⟩ (fun hHeld => ?_); refine with_tabW spec_ParseStmt.tab19 spec_ParseStmt.bits19 (fun HT_ HW_ => ?_)
                                              generalize wc.drew = w51 at HO_7 BK207 BK240 HB hx241_0 hx242_0 hx243_0 hHeld ⊢
                                              refine pure_ (i := 0) (N := some 80) (v := ?_) (a' := ?_) #[true, false, false, false, false, false, false, false, false, false, false, false] rfl rfl (any_of HT_.out (by kernel_rfl)) (fun _ _ _ h => h) (Or.inl ⟨by rfl, ?_⟩) ?_ ?_
                                              rotate_left
                                              · intro w'
                                                go_simp
                                                with_reducible rfl
                                              rotate_left
                                              · simp only [Act.put, List.setIfInBounds_toArray, List.set_cons_zero, List.set_cons_succ, i64_w, i32_w]
                                                rfl
                                              refine pure_ (i := 1) (N := some 81) (v := ?_) (a' := ?_) #[true, true, false, false, false, false, false, false, false, false, false, false] rfl rfl (any_of HT_.out (by kernel_rfl)) (fun _ _ _ h => h) (Or.inl ⟨by rfl, ?_⟩) ?_ ?_
                                              rotate_left
                                              · intro w'
                                                go_simp
                                                with_reducible rfl
                                              rotate_left
                                              · simp only [Act.put, List.setIfInBounds_toArray, List.set_cons_zero, List.set_cons_succ, i64_w, i32_w]
                                                rfl
                                              refine pure_ (i := 3) (N := some 83) (v := ?_) (a' := ?_) #[true, true, false, true, false, false, false, false, false, false, false, false] rfl rfl (any_of HT_.out (by kernel_rfl)) (fun _ _ _ h => h) (Or.inl ⟨by rfl, ?_⟩) ?_ ?_
                                              rotate_left
                                              · intro w'
                                                go_simp
                                                with_reducible rfl
                                              rotate_left
                                              · simp only [Act.put, List.setIfInBounds_toArray, List.set_cons_zero, List.set_cons_succ, i64_w, i32_w]
                                                rfl
                                              refine pure_ (i := 4) (N := some 84) (v := ?_) (a' := ?_) #[true, true, false, true, true, false, false, false, false, false, false, false] rfl rfl (any_of HT_.out (by kernel_rfl)) (fun _ _ _ h => h) (Or.inl ⟨by rfl, ?_⟩) ?_ ?_
                                              rotate_left
                                              · intro w'
                                                go_simp
                                                with_reducible rfl
                                              rotate_left
                                              · simp only [Act.put, List.setIfInBounds_toArray, List.set_cons_zero, List.set_cons_succ, i64_w, i32_w]
                                                rfl
                                              refine pure_ (i := 6) (N := some 86) (v := ?_) (a' := ?_) #[true, true, false, true, true, false, true, false, false, false, false, false] rfl rfl (any_of HT_.out (by kernel_rfl)) (fun _ _ _ h => h) (Or.inl ⟨by rfl, ?_⟩) ?_ ?_
                                              rotate_left
                                              · intro w'
                                                go_simp
                                                with_reducible rfl
                                              rotate_left
                                              · simp only [Act.put, List.setIfInBounds_toArray, List.set_cons_zero, List.set_cons_succ, i64_w, i32_w]
                                                rfl
                                              refine pure_ (i := 7) (N := some 87) (v := ?_) (a' := ?_) #[true, true, false, true, true, false, true, true, false, false, false, false] rfl rfl (any_of HT_.out (by kernel_rfl)) (fun _ _ _ h => h) (Or.inl ⟨by rfl, ?_⟩) ?_ ?_
                                              rotate_left
                                              · intro w'
                                                go_simp
                                                with_reducible rfl
                                              rotate_left
                                              · simp only [Act.put, List.setIfInBounds_toArray, List.set_cons_zero, List.set_cons_succ, i64_w, i32_w]
                                                rfl
                                              refine take_ (i := 2) (N := some 82) (v := ?_) (a' := ?_) #[true, true, true, true, true, false, true, true, false, false, false, false] rfl rfl (take_ofW HT_.out HW_.out (by kernel_rfl)) (fun _ _ _ h => h) (Or.inl ⟨by rfl, ?_⟩) hHeld ?_ ?_
                                              rotate_left
                                              · rintro w' ⟨s0, s1, s2⟩
                                                go_simp
                                                with_reducible rfl
                                              rotate_left
                                              · simp only [Act.put, List.setIfInBounds_toArray, List.set_cons_zero, List.set_cons_succ, i64_w, i32_w]
                                                rfl
                                              refine take_ (i := 5) (N := some 85) (v := ?_) (a' := ?_) #[true, true, true, true, true, true, true, true, false, false, false, false] rfl rfl (take_ofW HT_.out HW_.out (by kernel_rfl)) (fun _ _ _ h => h) (Or.inl ⟨by rfl, ?_⟩) hHeld ?_ ?_
                                              rotate_left
                                              · rintro w' ⟨s0, s1, s2⟩
                                                go_simp
                                                with_reducible rfl
                                              rotate_left
                                              · simp only [Act.put, List.setIfInBounds_toArray, List.set_cons_zero, List.set_cons_succ, i64_w, i32_w]
                                                rfl
                                              refine take_ (i := 8) (N := some 88) (v := ?_) (a' := ?_) #[true, true, true, true, true, true, true, true, true, false, false, false] rfl rfl (take_ofW HT_.out HW_.out (by kernel_rfl)) (fun _ _ _ h => h) (Or.inl ⟨by rfl, ?_⟩) hHeld ?_ ?_
                                              rotate_left
                                              · rintro w' ⟨s0, s1, s2⟩
                                                go_simp
                                                with_reducible rfl
                                              rotate_left
                                              · simp only [Act.put, List.setIfInBounds_toArray, List.set_cons_zero, List.set_cons_succ, i64_w, i32_w]
                                                rfl
                                              refine pure_ (i := 9) (N := some 89) (v := ?_) (a' := ?_) #[true, true, true, true, true, true, true, true, true, true, false, false] rfl rfl (any_of HT_.out (by kernel_rfl)) (fun _ _ _ h => h) (Or.inl ⟨by rfl, ?_⟩) ?_ ?_
                                              rotate_left
                                              · intro w'
                                                go_simp
                                                with_reducible rfl
                                              rotate_left
                                              · simp only [Act.put, List.setIfInBounds_toArray, List.set_cons_zero, List.set_cons_succ, i64_w, i32_w]
                                                rfl
                                              refine pure_ (i := 10) (N := some 90) (v := ?_) (a' := ?_) #[true, true, true, true, true, true, true, true, true, true, true, false] rfl rfl (any_of HT_.out (by kernel_rfl)) (fun _ _ _ h => h) (Or.inl ⟨by rfl, ?_⟩) ?_ ?_
                                              rotate_left
                                              · intro w'
                                                go_simp
                                                with_reducible rfl
                                              rotate_left
                                              · simp only [Act.put, List.setIfInBounds_toArray, List.set_cons_zero, List.set_cons_succ, i64_w, i32_w]
                                                rfl
                                              refine one_ (i := 11) (N := none) #[true, true, true, true, true, true, true, true, true, true, true, true] rfl rfl (one_of HT_.out (by kernel_rfl)) (by decide) (fun K hK => ?_)
                                              have hs52 : w51.cell? ⟨gb240, 3, none⟩ = some (.int .i64 t237) := (blk_cell BK240.out 3).trans rfl
                                              have hfs52 := blk_frozen BK240.out 3
                                              have hns52_0 := NB207_240.out
                                              have hms52_0 := NB240_207.out
                                              have hs53 : w51.cell? ⟨gb240, 4, none⟩ = some (.int .i64 t238) := (blk_cell BK240.out 4).trans rfl
                                              have hfs53 := blk_frozen BK240.out 4
                                              have hns53_0 := NB207_240.out
                                              have hms53_0 := NB240_207.out
                                              have hs54 : w51.cell? ⟨gb240, 5, none⟩ = some (.int .i64 t239) := (blk_cell BK240.out 5).trans rfl
                                              have hfs54 := blk_frozen BK240.out 5
                                              have hns54_0 := NB207_240.out
                                              have hms54_0 := NB240_207.out
                                              refine skip_ (w1 := ?_) (by rfl) rfl ?_ ?_
                                              rotate_left
                                              · go_simp
                                                rfl
                                              have hne_ := Kd.own_blk (Kd.R_ne HO_7.out BK240.out (by decide))
                                              refine hK.out _ _ ⟨((cell_far (a := ad229) (p := ⟨gb240, _, none⟩) hne_ _).trans (((cell_far (a := ad229) (p := ⟨gb240, _, none⟩) hne_ _).trans (((cell_far (a := ad229) (p := ⟨gb240, _, none⟩) hne_ _).trans (hHeld.1)))))), ((cell_far (a := ⟨ad229.block, ad229.off + 1, none⟩) (p := ⟨gb240, _, none⟩) hne_ _).trans (((cell_far (a := ⟨ad229.block, ad229.off + 1, none⟩) (p := ⟨gb240, _, none⟩) hne_ _).trans (((cell_far (a := ⟨ad229.block, ad229.off + 1, none⟩) (p := ⟨gb240, _, none⟩) hne_ _).trans (hHeld.2.1)))))), ((cell_far (a := ⟨ad229.block, ad229.off + 2, none⟩) (p := ⟨gb240, _, none⟩) hne_ _).trans (((cell_far (a := ⟨ad229.block, ad229.off + 2, none⟩) (p := ⟨gb240, _, none⟩) hne_ _).trans (((cell_far (a := ⟨ad229.block, ad229.off + 2, none⟩) (p := ⟨gb240, _, none⟩) hne_ _).trans (hHeld.2.2))))))⟩ (fun hHeld => ?_)
                                              clear hK K
                                              refine done_ (done_of HT_.out (by kernel_rfl)) ?_
                                              try go_wp2
                                              go_meet
                                              case rel => exact ⟨_, (t236), (rd y226 0), (rd y226 1), (rd y226 2), H', ⟨by have := HJ2.out; have := HK2.out; have := HK3.out; have := HJ44.out; first | omega | exact Nat.le_refl _⟩, ⟨by (with_reducible repeat (first | apply Kd.R_alloc | apply Kd.R_drewN | apply Kd.R_drew)); exact Kd.R_mono (Kd.R_far (p := ⟨gb240, 5, none⟩) (Kd.R_far (p := ⟨gb240, 4, none⟩) (Kd.R_far (p := ⟨gb240, 3, none⟩) (Kd.R_types HO_7.out BK240.out (by decide)) (fun _ hk => hk.2) (.int .i64 (rd y226 0))) (fun _ hk => hk.2) (.int .i64 (rd y226 1))) (fun _ hk => hk.2) (.int .i64 (rd y226 2))) (fun _ hk => trivial)⟩, ⟨by (with_reducible repeat (first | refine blk_drewN ?_ _ | refine blk_drew ?_ | refine blk_alloc ?_ _)); refine blk_far ?_ NB207_240.out _; (with_reducible repeat (first | refine blk_drewN ?_ _ | refine blk_drew ?_ | refine blk_alloc ?_ _)); refine blk_far ?_ NB207_240.out _; (with_reducible repeat (first | refine blk_drewN ?_ _ | refine blk_drew ?_ | refine blk_alloc ?_ _)); refine blk_far ?_ NB207_240.out _; (with_reducible repeat (first | refine blk_drewN ?_ _ | refine blk_drew ?_ | refine blk_alloc ?_ _)); exact BK207.out⟩, ⟨by (with_reducible repeat (first | refine blk_drewN ?_ _ | refine blk_drew ?_ | refine blk_alloc ?_ _)); refine blk_put (cs := #[.int .i64 t234, .int .i64 t235, .int .i64 t236, .int .i64 (rd y226 0), .int .i64 (rd y226 1), .int .i64 t239]) ?_ 5 _ rfl; (with_reducible repeat (first | refine blk_drewN ?_ _ | refine blk_drew ?_ | refine blk_alloc ?_ _)); refine blk_put (cs := #[.int .i64 t234, .int .i64 t235, .int .i64 t236, .int .i64 (rd y226 0), .int .i64 t238, .int .i64 t239]) ?_ 4 _ rfl; (with_reducible repeat (first | refine blk_drewN ?_ _ | refine blk_drew ?_ | refine blk_alloc ?_ _)); refine blk_put (cs := #[.int .i64 t234, .int .i64 t235, .int .i64 t236, .int .i64 t237, .int .i64 t238, .int .i64 t239]) ?_ 3 _ rfl; (with_reducible repeat (first | refine blk_drewN ?_ _ | refine blk_drew ?_ | refine blk_alloc ?_ _)); exact BK240.out⟩, ⟨by repeat (first | (with_reducible first | exact HB.out | apply below_alloc | apply pw_below_drewN | apply below_drew1 | refine below_set ?_ GE207.out | refine below_set ?_ GE240.out) | exact HB.out)⟩⟩
                                            · rw [if_neg c50] at H
                                              exact absurd H (by simp)
                                          · rw [if_neg c49] at H
                                            exact absurd H (by simp)
                                        · rw [if_neg c48] at H
                                          exact absurd H (by simp)
                                      · replace c47 := Bool.eq_false_iff.mpr c47
                                        subst c47
                                        have H1 : (if x9_3 = 5 then (if 0 < (y226.length : Int) then (spec_ParseStmt.j4 kj44 x6_2 y226 x9_3 t234 t235 (rd y226 0) t237 t238 t239) else (none)) else (spec_ParseStmt.j4 kj44 x6_2 y226 x9_3 t234 t235 t236 t237 t238 t239)) = some (r1, r2, r3, r4, r5, r6, r7) := by rw [if_neg (show ¬ (false = true) by decide)] at H; exact H
                                        clear H
                                        have H := H1
                                        clear H1
                                        by_cases c55 : x9_3 = 5
                                        · rw [if_pos c55] at H
                                          have c55b0 : (x9_3 == 5) = true := beq_iff_eq.mpr c55
                                          have c55b1 : (x9_3 != 5) = false := bne_eq_false_iff_eq.mpr c55
                                          clear c55
                                          by_cases c56 : 0 < (y226.length : Int)
                                          · rw [if_pos c56] at H
                                            have c56b0 : decide (0 < (y226.length : Int)) = true := decide_eq_true c56
                                            have c56b1 : decide (0 < y226.length) = true := decide_eq_true (by omega)
                                            clear c56
                                            have H' := Aside0.mk H
                                            clear H
                                            have p244 : 0 ≤ (0 : Int) := (by omega)
                                            have q244 : 0 < (y226.length : Int) := of_decide_eq_true (by first | (with_reducible assumption) | assumption)
                                            obtain ⟨ad244, e244, hx244_0⟩ := Kd.at_int (Kd.R_reads' HO_7.out).2.2 0 p244 q244
                                            obtain rfl : ad229 = ad244 := (by injection e244)
                                            have qi244 : (0 < y226.length) = True := eq_true (by omega)
                                            (try rw [show ((0 : Int)).toNat = 0 from rfl] at hx244_0)
                                            (try rw [Addr.add_zero'] at hx244_0)
                                            replace p244 := eq_true p244
                                            replace q244 := eq_true q244
                                            have hnb57 := NB240_207.out
                                            have hnc57 := NB207_240.out
                                            have hcz58_0 : wc.cell? ⟨gb240, 0, none⟩ = some (.int .i64 t234) := (blk_cell BK240.out 0).trans rfl
                                            have hcz58_1 : wc.cell? ⟨gb240, 1, none⟩ = some (.int .i64 t235) := (blk_cell BK240.out 1).trans rfl
                                            have hcz58_2 : wc.cell? ⟨gb240, 2, none⟩ = some (.int .i64 t236) := (blk_cell BK240.out 2).trans rfl
                                            have hcz58_3 : wc.cell? ⟨gb240, 3, none⟩ = some (.int .i64 t237) := (blk_cell BK240.out 3).trans rfl
                                            have hcz58_4 : wc.cell? ⟨gb240, 4, none⟩ = some (.int .i64 t238) := (blk_cell BK240.out 4).trans rfl
                                            have hcz58_5 : wc.cell? ⟨gb240, 5, none⟩ = some (.int .i64 t239) := (blk_cell BK240.out 5).trans rfl
                                            have hfz58_0 := blk_frozen BK240.out 0
                                            have hfz58_1 := blk_frozen BK240.out 1
                                            have hfz58_2 := blk_frozen BK240.out 2
                                            have hfz58_3 := blk_frozen BK240.out 3
                                            have hfz58_4 := blk_frozen BK240.out 4
                                            have hfz58_5 := blk_frozen BK240.out 5
                                            go_wp2
                                            go_meet
                                            case rel => exact ⟨_, (rd y226 0), (t237), (t238), (t239), H', ⟨by have := HJ2.out; have := HK2.out; have := HK3.out; have := HJ44.out; first | omega | exact Nat.le_refl _⟩, ⟨by (with_reducible repeat (first | apply Kd.R_alloc | apply Kd.R_drewN | apply Kd.R_drew)); exact Kd.R_mono (Kd.R_far (p := ⟨gb240, 2, none⟩) (Kd.R_types HO_7.out BK240.out (by decide)) (fun _ hk => hk.2) (.int .i64 (rd y226 0))) (fun _ hk => trivial)⟩, ⟨by (with_reducible repeat (first | refine blk_drewN ?_ _ | refine blk_drew ?_ | refine blk_alloc ?_ _)); refine blk_far ?_ NB207_240.out _; (with_reducible repeat (first | refine blk_drewN ?_ _ | refine blk_drew ?_ | refine blk_alloc ?_ _)); exact BK207.out⟩, ⟨by (with_reducible repeat (first | refine blk_drewN ?_ _ | refine blk_drew ?_ | refine blk_alloc ?_ _)); refine blk_put (cs := #[.int .i64 t234, .int .i64 t235, .int .i64 t236, .int .i64 t237, .int .i64 t238, .int .i64 t239]) ?_ 2 _ rfl; (with_reducible repeat (first | refine blk_drewN ?_ _ | refine blk_drew ?_ | refine blk_alloc ?_ _)); exact BK240.out⟩, ⟨by repeat (first | (with_reducible first | exact HB.out | apply below_alloc | apply pw_below_drewN | apply below_drew1 | refine below_set ?_ GE207.out | refine below_set ?_ GE240.out) | exact HB.out)⟩⟩
                                          · rw [if_neg c56] at H
                                            exact absurd H (by simp)
                                        · rw [if_neg c55] at H
                                          have c55b0 : (x9_3 == 5) = false := beq_eq_false_iff_ne.mpr c55
                                          have c55b1 : (x9_3 != 5) = true := bne_iff_ne.mpr c55
                                          have H' := Aside0.mk H
                                          clear H
                                          go_wp2
                                          go_meet
                                          case rel => exact ⟨_, (t236), (t237), (t238), (t239), H', ⟨by have := HJ2.out; have := HK2.out; have := HK3.out; have := HJ44.out; first | omega | exact Nat.le_refl _⟩, ⟨by (with_reducible repeat (first | apply Kd.R_alloc | apply Kd.R_drewN | apply Kd.R_drew)); exact HO_7.out⟩, ⟨by (with_reducible repeat (first | refine blk_drewN ?_ _ | refine blk_drew ?_ | refine blk_alloc ?_ _)); exact BK207.out⟩, ⟨by (with_reducible repeat (first | refine blk_drewN ?_ _ | refine blk_drew ?_ | refine blk_alloc ?_ _)); exact BK240.out⟩, ⟨by repeat (first | (with_reducible first | exact HB.out | apply below_alloc | apply pw_below_drewN | apply below_drew1 | refine below_set ?_ GE207.out | refine below_set ?_ GE240.out) | exact HB.out)⟩⟩
                                case rest =>
                                  clear HC33
                                  try clear c1
                                  try clear c2
                                  try clear p2
                                  try clear q2
                                  try clear hx2
                                  try clear qi2
                                  try clear c3
                                  try clear c4
                                  try clear c5
                                  try clear c6
                                  try clear p6
                                  try clear c9
                                  try clear c11
                                  try clear c11b0
                                  try clear c11b1
                                  try clear c15
                                  try clear c15b0
                                  try clear c16
                                  try clear c16b0
                                  try clear c16b1
                                  try clear c16b2
                                  try clear c17
                                  try clear c17b0
                                  try clear c18
                                  try clear c18b0
                                  try clear c18b1
                                  try clear c18b2
                                  try clear c19
                                  try clear c20
                                  try clear p21
                                  try clear q21
                                  try clear hx21
                                  try clear qi21
                                  try clear c22
                                  try clear p22
                                  try clear q22
                                  try clear hx22
                                  try clear qi22
                                  try clear c23
                                  try clear p23
                                  try clear q23
                                  try clear hx23
                                  try clear qi23
                                  try clear p24
                                  try clear q24
                                  try clear hx24
                                  try clear qi24
                                  try clear c27
                                  try clear c27b0
                                  try clear c28
                                  try clear c28b0
                                  try clear c28b1
                                  try clear c29
                                  try clear c29b0
                                  try clear c29b1
                                  try clear c30
                                  try clear c30b0
                                  try clear c30b1
                                  try clear c31
                                  try clear c31b0
                                  try clear c31b1
                                  try clear c46
                                  try clear c46b0
                                  try clear c46b1
                                  try clear c47
                                  try clear c48
                                  try clear c48b0
                                  try clear c48b1
                                  try clear c49
                                  try clear c49b0
                                  try clear c49b1
                                  try clear c50
                                  try clear c50b0
                                  try clear c50b1
                                  try clear c55
                                  try clear c55b0
                                  try clear c55b1
                                  try clear c56
                                  try clear c56b0
                                  try clear c56b1
                                  try clear c57
                                  try clear hcz10_0
                                  try clear hcz10_1
                                  try clear hcz10_2
                                  try clear hcz10_3
                                  try clear hcz10_4
                                  try clear hcz10_5
                                  try clear hcz58_0
                                  try clear hcz58_1
                                  try clear hcz58_2
                                  try clear hcz58_3
                                  try clear hcz58_4
                                  try clear hcz58_5
                                  try clear hfz10_0
                                  try clear hfz10_1
                                  try clear hfz10_2
                                  try clear hfz10_3
                                  try clear hfz10_4
                                  try clear hfz10_5
                                  try clear hfz58_0
                                  try clear hfz58_1
                                  try clear hfz58_2
                                  try clear hfz58_3
                                  try clear hfz58_4
                                  try clear hfz58_5
                                  try clear hx213_0
                                  try clear hx217_0
                                  try clear hx218_0
                                  try clear hx229_0
                                  try clear hx230_0
                                  try clear hx231_0
                                  try clear hx232_0
                                  try clear hx233_0
                                  try clear hx241_0
                                  try clear hx242_0
                                  try clear hx243_0
                                  try clear hx244_0
                                  try clear p2
                                  try clear p21
                                  try clear p213
                                  try clear p217
                                  try clear p218
                                  try clear p22
                                  try clear p229
                                  try clear p23
                                  try clear p230
                                  try clear p231
                                  try clear p232
                                  try clear p233
                                  try clear p241
                                  try clear p242
                                  try clear p243
                                  try clear p244
                                  try clear p6
                                  try clear q2
                                  try clear q21
                                  try clear q213
                                  try clear q217
                                  try clear q218
                                  try clear q22
                                  try clear q229
                                  try clear q23
                                  try clear q230
                                  try clear q231
                                  try clear q232
                                  try clear q233
                                  try clear q241
                                  try clear q242
                                  try clear q243
                                  try clear q244
                                  obtain ⟨kq, x241002_32, x241003_32, x241004_32, x241005_32, HA, HJ32, HO_7, BK207, BK240, HB⟩ := hcut
                                  cases kq with
                                  | zero => exact absurd HA.out (by simp [spec_ParseStmt.j4])
                                  | succ kj32 =>
                                    have H := HA.out
                                    clear HA
                                    simp only [spec_ParseStmt.j4] at H
                                    replace H := Option.bind_eq_some_iff.mp H
                                    obtain ⟨t245, A590, H⟩ := H
                                    replace H : (if t245 = true then ((spec_FormatStmt.f kj32 t234 t235 x241002_32 x241003_32 x241004_32 x241005_32).bind fun t246 => (if t246.toList = x6_2.toList then (some (t234, t235, x241002_32, x241003_32, x241004_32, x241005_32, true)) else (spec_ParseStmt.l1 kj32 x6_2 y226 (wrap64 (x9_3 + 1))))) else (spec_ParseStmt.l1 kj32 x6_2 y226 (wrap64 (x9_3 + 1)))) = some (r1, r2, r3, r4, r5, r6, r7) := H
                                    have A59 := Aside0.mk A590
                                    clear A590
                                    by_cases c60 : t245 = true
                                    · subst c60
                                      have H1 : ((spec_FormatStmt.f kj32 t234 t235 x241002_32 x241003_32 x241004_32 x241005_32).bind fun t246 => (if t246.toList = x6_2.toList then (some (t234, t235, x241002_32, x241003_32, x241004_32, x241005_32, true)) else (spec_ParseStmt.l1 kj32 x6_2 y226 (wrap64 (x9_3 + 1))))) = some (r1, r2, r3, r4, r5, r6, r7) := by rw [if_pos rfl] at H; exact H
                                      clear H
                                      have H := H1
                                      clear H1
                                      replace H := Option.bind_eq_some_iff.mp H
                                      obtain ⟨t246, A610, H⟩ := H
                                      replace H : (if t246.toList = x6_2.toList then (some (t234, t235, x241002_32, x241003_32, x241004_32, x241005_32, true)) else (spec_ParseStmt.l1 kj32 x6_2 y226 (wrap64 (x9_3 + 1)))) = some (r1, r2, r3, r4, r5, r6, r7) := H
                                      have A61 := Aside0.mk A610
                                      clear A610
                                      by_cases c62 : t246.toList = x6_2.toList
                                      · rw [if_pos c62] at H
                                        have c62b0 : (t246.toList == x6_2.toList) = true := beq_iff_eq.mpr c62
                                        have c62b1 : (t246.toList != x6_2.toList) = false := bne_eq_false_iff_eq.mpr c62
                                        clear c62
                                        simp only [Option.some.injEq, Prod.mk.injEq] at H
                                        obtain ⟨rfl, rfl, rfl, rfl, rfl, rfl, rfl⟩ := H
                                        have hnb63 := NB240_207.out
                                        have hnc63 := NB207_240.out
                                        have hcz64_0 : wc.cell? ⟨gb240, 0, none⟩ = some (.int .i64 t234) := (blk_cell BK240.out 0).trans rfl
                                        have hcz64_1 : wc.cell? ⟨gb240, 1, none⟩ = some (.int .i64 t235) := (blk_cell BK240.out 1).trans rfl
                                        have hcz64_2 : wc.cell? ⟨gb240, 2, none⟩ = some (.int .i64 x241002_32) := (blk_cell BK240.out 2).trans rfl
                                        have hcz64_3 : wc.cell? ⟨gb240, 3, none⟩ = some (.int .i64 x241003_32) := (blk_cell BK240.out 3).trans rfl
                                        have hcz64_4 : wc.cell? ⟨gb240, 4, none⟩ = some (.int .i64 x241004_32) := (blk_cell BK240.out 4).trans rfl
                                        have hcz64_5 : wc.cell? ⟨gb240, 5, none⟩ = some (.int .i64 x241005_32) := (blk_cell BK240.out 5).trans rfl
                                        have hfz64_0 := blk_frozen BK240.out 0
                                        have hfz64_1 := blk_frozen BK240.out 1
                                        have hfz64_2 := blk_frozen BK240.out 2
                                        have hfz64_3 := blk_frozen BK240.out 3
                                        have hfz64_4 := blk_frozen BK240.out 4
                                        have hfz64_5 := blk_frozen BK240.out 5
                                        go_wp2_with (first | ((with_reducible refine gate_callee (f := 64) rfl ?_); refine goesL_ (some 98) rfl rfl Tryd.func64 (by kernel_rfl) rfl #[.agg #[.int .i64 t234, .int .i64 t235, .int .i64 x241002_32, .int .i64 x241003_32, .int .i64 x241004_32, .int .i64 x241005_32]] rfl (by (try simp only [List.map_toArray, List.map_cons, List.map_nil]); first | done | rfl | (simp only [List.length_drop, List.length_take]; rfl)) ?_; (with_reducible refine (spec_StmtOk.calls kj32 t234 t235 x241002_32 x241003_32 x241004_32 x241005_32 true _ A59.out).mono ?_); rintro e w65 ⟨rfl, hb⟩; refine ⟨_, rfl, ?_⟩; have n0_ := Aside0.mk (Kd.R_below (by (with_reducible repeat (first | apply Kd.R_alloc | apply Kd.R_drewN | apply Kd.R_drew)); exact HO_7.out) hb); have n1_ := Aside0.mk (blk_below (g := gb207) (o := .cells #[.int .i64 x208000_3, .int .i64 x208001_3, .int .i64 x208002_3, .int .i64 x208003_3, .int .i64 x208004_3, .int .i64 x208005_3] 27 (0, 0)) (by (with_reducible repeat (first | refine blk_drewN ?_ _ | refine blk_drew ?_ | refine blk_alloc ?_ _)); exact BK207.out) hb); have n2_ := Aside0.mk (blk_below (g := gb240) (o := .cells #[.int .i64 t234, .int .i64 t235, .int .i64 x241002_32, .int .i64 x241003_32, .int .i64 x241004_32, .int .i64 x241005_32] 27 (0, 0)) (by (with_reducible repeat (first | refine blk_drewN ?_ _ | refine blk_drew ?_ | refine blk_alloc ?_ _)); exact BK240.out) hb); have n3_ := Aside0.mk (below_step (by repeat (first | (with_reducible first | exact HB.out | apply below_alloc | apply pw_below_drewN | apply below_drew1 | refine below_set ?_ GE207.out | refine below_set ?_ GE240.out) | exact HB.out)) hb); clear HO_7; clear BK207; clear BK240; clear HB; have HO_7 := n0_; have BK207 := n1_; have BK240 := n2_; have HB := n3_; clear n0_ n1_ n2_ n3_; (try clear hb); (try clear hb2); (try clear hk); (try clear hi); have hcz66_0 : w65.cell? ⟨gb240, 0, none⟩ = some (.int .i64 t234) := (blk_cell BK240.out 0).trans rfl; have hcz66_1 : w65.cell? ⟨gb240, 1, none⟩ = some (.int .i64 t235) := (blk_cell BK240.out 1).trans rfl; have hcz66_2 : w65.cell? ⟨gb240, 2, none⟩ = some (.int .i64 x241002_32) := (blk_cell BK240.out 2).trans rfl; have hcz66_3 : w65.cell? ⟨gb240, 3, none⟩ = some (.int .i64 x241003_32) := (blk_cell BK240.out 3).trans rfl; have hcz66_4 : w65.cell? ⟨gb240, 4, none⟩ = some (.int .i64 x241004_32) := (blk_cell BK240.out 4).trans rfl; have hcz66_5 : w65.cell? ⟨gb240, 5, none⟩ = some (.int .i64 x241005_32) := (blk_cell BK240.out 5).trans rfl; have hfz66_0 := blk_frozen BK240.out 0; have hfz66_1 := blk_frozen BK240.out 1; have hfz66_2 := blk_frozen BK240.out 2; have hfz66_3 := blk_frozen BK240.out 3; have hfz66_4 := blk_frozen BK240.out 4; have hfz66_5 := blk_frozen BK240.out 5) | (go_at_call 28; (with_reducible refine (spec_FormatStmt.calls kj32 t234 t235 x241002_32 x241003_32 x241004_32 x241005_32 t246 _ A61.out).mono ?_); rintro e w67 ⟨rfl, hb⟩; have n0_ := Aside0.mk (Kd.R_below (by (with_reducible repeat (first | apply Kd.R_alloc | apply Kd.R_drewN | apply Kd.R_drew)); exact HO_7.out) hb); have n1_ := Aside0.mk (blk_below (g := gb207) (o := .cells #[.int .i64 x208000_3, .int .i64 x208001_3, .int .i64 x208002_3, .int .i64 x208003_3, .int .i64 x208004_3, .int .i64 x208005_3] 27 (0, 0)) (by (with_reducible repeat (first | refine blk_drewN ?_ _ | refine blk_drew ?_ | refine blk_alloc ?_ _)); exact BK207.out) hb); have n2_ := Aside0.mk (blk_below (g := gb240) (o := .cells #[.int .i64 t234, .int .i64 t235, .int .i64 x241002_32, .int .i64 x241003_32, .int .i64 x241004_32, .int .i64 x241005_32] 27 (0, 0)) (by (with_reducible repeat (first | refine blk_drewN ?_ _ | refine blk_drew ?_ | refine blk_alloc ?_ _)); exact BK240.out) hb); have n3_ := Aside0.mk (below_step (by repeat (first | (with_reducible first | exact HB.out | apply below_alloc | apply pw_below_drewN | apply below_drew1 | refine below_set ?_ GE207.out | refine below_set ?_ GE240.out) | exact HB.out)) hb); clear HO_7; clear BK207; clear BK240; clear HB; have HO_7 := n0_; have BK207 := n1_; have BK240 := n2_; have HB := n3_; clear n0_ n1_ n2_ n3_; (try clear hb); (try clear hb2); (try clear hk); (try clear hi); have hcz68_0 : w67.cell? ⟨gb240, 0, none⟩ = some (.int .i64 t234) := (blk_cell BK240.out 0).trans rfl; have hcz68_1 : w67.cell? ⟨gb240, 1, none⟩ = some (.int .i64 t235) := (blk_cell BK240.out 1).trans rfl; have hcz68_2 : w67.cell? ⟨gb240, 2, none⟩ = some (.int .i64 x241002_32) := (blk_cell BK240.out 2).trans rfl; have hcz68_3 : w67.cell? ⟨gb240, 3, none⟩ = some (.int .i64 x241003_32) := (blk_cell BK240.out 3).trans rfl; have hcz68_4 : w67.cell? ⟨gb240, 4, none⟩ = some (.int .i64 x241004_32) := (blk_cell BK240.out 4).trans rfl; have hcz68_5 : w67.cell? ⟨gb240, 5, none⟩ = some (.int .i64 x241005_32) := (blk_cell BK240.out 5).trans rfl; have hfz68_0 := blk_frozen BK240.out 0; have hfz68_1 := blk_frozen BK240.out 1; have hfz68_2 := blk_frozen BK240.out 2; have hfz68_3 := blk_frozen BK240.out 3; have hfz68_4 := blk_frozen BK240.out 4; have hfz68_5 := blk_frozen BK240.out 5; have hcz69_0 : w67.cell? ⟨gb207, 0, none⟩ = some (.int .i64 x208000_3) := (blk_cell BK207.out 0).trans rfl; have hcz69_1 : w67.cell? ⟨gb207, 1, none⟩ = some (.int .i64 x208001_3) := (blk_cell BK207.out 1).trans rfl; have hcz69_2 : w67.cell? ⟨gb207, 2, none⟩ = some (.int .i64 x208002_3) := (blk_cell BK207.out 2).trans rfl; have hcz69_3 : w67.cell? ⟨gb207, 3, none⟩ = some (.int .i64 x208003_3) := (blk_cell BK207.out 3).trans rfl; have hcz69_4 : w67.cell? ⟨gb207, 4, none⟩ = some (.int .i64 x208004_3) := (blk_cell BK207.out 4).trans rfl; have hcz69_5 : w67.cell? ⟨gb207, 5, none⟩ = some (.int .i64 x208005_3) := (blk_cell BK207.out 5).trans rfl; have hfz69_0 := blk_frozen BK207.out 0; have hfz69_1 := blk_frozen BK207.out 1; have hfz69_2 := blk_frozen BK207.out 2; have hfz69_3 := blk_frozen BK207.out 3; have hfz69_4 := blk_frozen BK207.out 4; have hfz69_5 := blk_frozen BK207.out 5))
                                        refine bodyPost_ret (results_ct rfl _ _ gb207 27 #[.int .i64 t234, .int .i64 t235, .int .i64 x241002_32, .int .i64 x241003_32, .int .i64 x241004_32, .int .i64 x241005_32] (0, 0) _ rfl (by (with_reducible repeat (first | refine blk_drewN ?_ _ | refine blk_drew ?_ | refine blk_alloc ?_ _)); refine blk_put (cs := #[.int .i64 t234, .int .i64 t235, .int .i64 x241002_32, .int .i64 x241003_32, .int .i64 x241004_32, .int .i64 x208005_3]) ?_ 5 _ rfl; (with_reducible repeat (first | refine blk_drewN ?_ _ | refine blk_drew ?_ | refine blk_alloc ?_ _)); refine blk_put (cs := #[.int .i64 t234, .int .i64 t235, .int .i64 x241002_32, .int .i64 x241003_32, .int .i64 x208004_3, .int .i64 x208005_3]) ?_ 4 _ rfl; (with_reducible repeat (first | refine blk_drewN ?_ _ | refine blk_drew ?_ | refine blk_alloc ?_ _)); refine blk_put (cs := #[.int .i64 t234, .int .i64 t235, .int .i64 x241002_32, .int .i64 x208003_3, .int .i64 x208004_3, .int .i64 x208005_3]) ?_ 3 _ rfl; (with_reducible repeat (first | refine blk_drewN ?_ _ | refine blk_drew ?_ | refine blk_alloc ?_ _)); refine blk_put (cs := #[.int .i64 t234, .int .i64 t235, .int .i64 x208002_3, .int .i64 x208003_3, .int .i64 x208004_3, .int .i64 x208005_3]) ?_ 2 _ rfl; (with_reducible repeat (first | refine blk_drewN ?_ _ | refine blk_drew ?_ | refine blk_alloc ?_ _)); refine blk_put (cs := #[.int .i64 t234, .int .i64 x208001_3, .int .i64 x208002_3, .int .i64 x208003_3, .int .i64 x208004_3, .int .i64 x208005_3]) ?_ 1 _ rfl; (with_reducible repeat (first | refine blk_drewN ?_ _ | refine blk_drew ?_ | refine blk_alloc ?_ _)); refine blk_put (cs := #[.int .i64 x208000_3, .int .i64 x208001_3, .int .i64 x208002_3, .int .i64 x208003_3, .int .i64 x208004_3, .int .i64 x208005_3]) ?_ 0 _ rfl; (with_reducible repeat (first | refine blk_drewN ?_ _ | refine blk_drew ?_ | refine blk_alloc ?_ _)); exact BK207.out) Tryd.underlying27 rfl (by kernel_rfl)) rfl ?_
                                        exact ⟨by first | rfl | (simp [errW_none, errW_some] <;> rfl) | (simp [*, errW_none, errW_some] <;> rfl), by repeat (first | (with_reducible first | exact HB.out | apply below_alloc | apply pw_below_drewN | apply below_drew1 | refine below_set ?_ GE207.out | refine below_set ?_ GE240.out) | exact HB.out)⟩
                                      · rw [if_neg c62] at H
                                        have c62b0 : (t246.toList == x6_2.toList) = false := beq_eq_false_iff_ne.mpr c62
                                        have c62b1 : (t246.toList != x6_2.toList) = true := bne_iff_ne.mpr c62
                                        have H' := Aside0.mk H
                                        clear H
                                        have hnb70 := NB240_207.out
                                        have hnc70 := NB207_240.out
                                        have hcz71_0 : wc.cell? ⟨gb240, 0, none⟩ = some (.int .i64 t234) := (blk_cell BK240.out 0).trans rfl
                                        have hcz71_1 : wc.cell? ⟨gb240, 1, none⟩ = some (.int .i64 t235) := (blk_cell BK240.out 1).trans rfl
                                        have hcz71_2 : wc.cell? ⟨gb240, 2, none⟩ = some (.int .i64 x241002_32) := (blk_cell BK240.out 2).trans rfl
                                        have hcz71_3 : wc.cell? ⟨gb240, 3, none⟩ = some (.int .i64 x241003_32) := (blk_cell BK240.out 3).trans rfl
                                        have hcz71_4 : wc.cell? ⟨gb240, 4, none⟩ = some (.int .i64 x241004_32) := (blk_cell BK240.out 4).trans rfl
                                        have hcz71_5 : wc.cell? ⟨gb240, 5, none⟩ = some (.int .i64 x241005_32) := (blk_cell BK240.out 5).trans rfl
                                        have hfz71_0 := blk_frozen BK240.out 0
                                        have hfz71_1 := blk_frozen BK240.out 1
                                        have hfz71_2 := blk_frozen BK240.out 2
                                        have hfz71_3 := blk_frozen BK240.out 3
                                        have hfz71_4 := blk_frozen BK240.out 4
                                        have hfz71_5 := blk_frozen BK240.out 5
                                        go_wp2_with (first | ((with_reducible refine gate_callee (f := 64) rfl ?_); refine goesL_ (some 98) rfl rfl Tryd.func64 (by kernel_rfl) rfl #[.agg #[.int .i64 t234, .int .i64 t235, .int .i64 x241002_32, .int .i64 x241003_32, .int .i64 x241004_32, .int .i64 x241005_32]] rfl (by (try simp only [List.map_toArray, List.map_cons, List.map_nil]); first | done | rfl | (simp only [List.length_drop, List.length_take]; rfl)) ?_; (with_reducible refine (spec_StmtOk.calls kj32 t234 t235 x241002_32 x241003_32 x241004_32 x241005_32 true _ A59.out).mono ?_); rintro e w72 ⟨rfl, hb⟩; refine ⟨_, rfl, ?_⟩; have n0_ := Aside0.mk (Kd.R_below (by (with_reducible repeat (first | apply Kd.R_alloc | apply Kd.R_drewN | apply Kd.R_drew)); exact HO_7.out) hb); have n1_ := Aside0.mk (blk_below (g := gb207) (o := .cells #[.int .i64 x208000_3, .int .i64 x208001_3, .int .i64 x208002_3, .int .i64 x208003_3, .int .i64 x208004_3, .int .i64 x208005_3] 27 (0, 0)) (by (with_reducible repeat (first | refine blk_drewN ?_ _ | refine blk_drew ?_ | refine blk_alloc ?_ _)); exact BK207.out) hb); have n2_ := Aside0.mk (blk_below (g := gb240) (o := .cells #[.int .i64 t234, .int .i64 t235, .int .i64 x241002_32, .int .i64 x241003_32, .int .i64 x241004_32, .int .i64 x241005_32] 27 (0, 0)) (by (with_reducible repeat (first | refine blk_drewN ?_ _ | refine blk_drew ?_ | refine blk_alloc ?_ _)); exact BK240.out) hb); have n3_ := Aside0.mk (below_step (by repeat (first | (with_reducible first | exact HB.out | apply below_alloc | apply pw_below_drewN | apply below_drew1 | refine below_set ?_ GE207.out | refine below_set ?_ GE240.out) | exact HB.out)) hb); clear HO_7; clear BK207; clear BK240; clear HB; have HO_7 := n0_; have BK207 := n1_; have BK240 := n2_; have HB := n3_; clear n0_ n1_ n2_ n3_; (try clear hb); (try clear hb2); (try clear hk); (try clear hi); have hcz73_0 : w72.cell? ⟨gb240, 0, none⟩ = some (.int .i64 t234) := (blk_cell BK240.out 0).trans rfl; have hcz73_1 : w72.cell? ⟨gb240, 1, none⟩ = some (.int .i64 t235) := (blk_cell BK240.out 1).trans rfl; have hcz73_2 : w72.cell? ⟨gb240, 2, none⟩ = some (.int .i64 x241002_32) := (blk_cell BK240.out 2).trans rfl; have hcz73_3 : w72.cell? ⟨gb240, 3, none⟩ = some (.int .i64 x241003_32) := (blk_cell BK240.out 3).trans rfl; have hcz73_4 : w72.cell? ⟨gb240, 4, none⟩ = some (.int .i64 x241004_32) := (blk_cell BK240.out 4).trans rfl; have hcz73_5 : w72.cell? ⟨gb240, 5, none⟩ = some (.int .i64 x241005_32) := (blk_cell BK240.out 5).trans rfl; have hfz73_0 := blk_frozen BK240.out 0; have hfz73_1 := blk_frozen BK240.out 1; have hfz73_2 := blk_frozen BK240.out 2; have hfz73_3 := blk_frozen BK240.out 3; have hfz73_4 := blk_frozen BK240.out 4; have hfz73_5 := blk_frozen BK240.out 5) | (go_at_call 28; (with_reducible refine (spec_FormatStmt.calls kj32 t234 t235 x241002_32 x241003_32 x241004_32 x241005_32 t246 _ A61.out).mono ?_); rintro e w74 ⟨rfl, hb⟩; have n0_ := Aside0.mk (Kd.R_below (by (with_reducible repeat (first | apply Kd.R_alloc | apply Kd.R_drewN | apply Kd.R_drew)); exact HO_7.out) hb); have n1_ := Aside0.mk (blk_below (g := gb207) (o := .cells #[.int .i64 x208000_3, .int .i64 x208001_3, .int .i64 x208002_3, .int .i64 x208003_3, .int .i64 x208004_3, .int .i64 x208005_3] 27 (0, 0)) (by (with_reducible repeat (first | refine blk_drewN ?_ _ | refine blk_drew ?_ | refine blk_alloc ?_ _)); exact BK207.out) hb); have n2_ := Aside0.mk (blk_below (g := gb240) (o := .cells #[.int .i64 t234, .int .i64 t235, .int .i64 x241002_32, .int .i64 x241003_32, .int .i64 x241004_32, .int .i64 x241005_32] 27 (0, 0)) (by (with_reducible repeat (first | refine blk_drewN ?_ _ | refine blk_drew ?_ | refine blk_alloc ?_ _)); exact BK240.out) hb); have n3_ := Aside0.mk (below_step (by repeat (first | (with_reducible first | exact HB.out | apply below_alloc | apply pw_below_drewN | apply below_drew1 | refine below_set ?_ GE207.out | refine below_set ?_ GE240.out) | exact HB.out)) hb); clear HO_7; clear BK207; clear BK240; clear HB; have HO_7 := n0_; have BK207 := n1_; have BK240 := n2_; have HB := n3_; clear n0_ n1_ n2_ n3_; (try clear hb); (try clear hb2); (try clear hk); (try clear hi)))
                                        go_roundg kj32
                                        case measure => have := HJ2.out; have := HK2.out; have := HK3.out; have := HJ32.out; omega
                                        case rel => exact ⟨(wrap64 (x9_3 + 1)), (x208000_3), (x208001_3), (x208002_3), (x208003_3), (x208004_3), (x208005_3), (by first | rfl | (simp; done) | (simp [*]; done)), H', ⟨by have := HJ2.out; have := HK2.out; have := HK3.out; have := HJ32.out; omega⟩, ⟨by (with_reducible repeat (first | apply Kd.R_alloc | apply Kd.R_drewN | apply Kd.R_drew)); exact HO_7.out⟩, ⟨by (with_reducible repeat (first | refine blk_drewN ?_ _ | refine blk_drew ?_ | refine blk_alloc ?_ _)); exact BK207.out⟩, ⟨by repeat (first | (with_reducible first | exact HB.out | apply below_alloc | apply pw_below_drewN | apply below_drew1 | refine below_set ?_ GE207.out | refine below_set ?_ GE240.out) | exact HB.out)⟩⟩
                                    · replace c60 := Bool.eq_false_iff.mpr c60
                                      subst c60
                                      have H1 : (spec_ParseStmt.l1 kj32 x6_2 y226 (wrap64 (x9_3 + 1))) = some (r1, r2, r3, r4, r5, r6, r7) := by rw [if_neg (show ¬ (false = true) by decide)] at H; exact H
                                      clear H
                                      have H := H1
                                      clear H1
                                      have H' := Aside0.mk H
                                      clear H
                                      have hnb75 := NB240_207.out
                                      have hnc75 := NB207_240.out
                                      have hcz76_0 : wc.cell? ⟨gb240, 0, none⟩ = some (.int .i64 t234) := (blk_cell BK240.out 0).trans rfl
                                      have hcz76_1 : wc.cell? ⟨gb240, 1, none⟩ = some (.int .i64 t235) := (blk_cell BK240.out 1).trans rfl
                                      have hcz76_2 : wc.cell? ⟨gb240, 2, none⟩ = some (.int .i64 x241002_32) := (blk_cell BK240.out 2).trans rfl
                                      have hcz76_3 : wc.cell? ⟨gb240, 3, none⟩ = some (.int .i64 x241003_32) := (blk_cell BK240.out 3).trans rfl
                                      have hcz76_4 : wc.cell? ⟨gb240, 4, none⟩ = some (.int .i64 x241004_32) := (blk_cell BK240.out 4).trans rfl
                                      have hcz76_5 : wc.cell? ⟨gb240, 5, none⟩ = some (.int .i64 x241005_32) := (blk_cell BK240.out 5).trans rfl
                                      have hfz76_0 := blk_frozen BK240.out 0
                                      have hfz76_1 := blk_frozen BK240.out 1
                                      have hfz76_2 := blk_frozen BK240.out 2
                                      have hfz76_3 := blk_frozen BK240.out 3
                                      have hfz76_4 := blk_frozen BK240.out 4
                                      have hfz76_5 := blk_frozen BK240.out 5
                                      go_wp2_with (first | ((with_reducible refine gate_callee (f := 64) rfl ?_); refine goesL_ (some 98) rfl rfl Tryd.func64 (by kernel_rfl) rfl #[.agg #[.int .i64 t234, .int .i64 t235, .int .i64 x241002_32, .int .i64 x241003_32, .int .i64 x241004_32, .int .i64 x241005_32]] rfl (by (try simp only [List.map_toArray, List.map_cons, List.map_nil]); first | done | rfl | (simp only [List.length_drop, List.length_take]; rfl)) ?_; (with_reducible refine (spec_StmtOk.calls kj32 t234 t235 x241002_32 x241003_32 x241004_32 x241005_32 false _ A59.out).mono ?_); rintro e w77 ⟨rfl, hb⟩; refine ⟨_, rfl, ?_⟩; have n0_ := Aside0.mk (Kd.R_below (by (with_reducible repeat (first | apply Kd.R_alloc | apply Kd.R_drewN | apply Kd.R_drew)); exact HO_7.out) hb); have n1_ := Aside0.mk (blk_below (g := gb207) (o := .cells #[.int .i64 x208000_3, .int .i64 x208001_3, .int .i64 x208002_3, .int .i64 x208003_3, .int .i64 x208004_3, .int .i64 x208005_3] 27 (0, 0)) (by (with_reducible repeat (first | refine blk_drewN ?_ _ | refine blk_drew ?_ | refine blk_alloc ?_ _)); exact BK207.out) hb); have n2_ := Aside0.mk (blk_below (g := gb240) (o := .cells #[.int .i64 t234, .int .i64 t235, .int .i64 x241002_32, .int .i64 x241003_32, .int .i64 x241004_32, .int .i64 x241005_32] 27 (0, 0)) (by (with_reducible repeat (first | refine blk_drewN ?_ _ | refine blk_drew ?_ | refine blk_alloc ?_ _)); exact BK240.out) hb); have n3_ := Aside0.mk (below_step (by repeat (first | (with_reducible first | exact HB.out | apply below_alloc | apply pw_below_drewN | apply below_drew1 | refine below_set ?_ GE207.out | refine below_set ?_ GE240.out) | exact HB.out)) hb); clear HO_7; clear BK207; clear BK240; clear HB; have HO_7 := n0_; have BK207 := n1_; have BK240 := n2_; have HB := n3_; clear n0_ n1_ n2_ n3_; (try clear hb); (try clear hb2); (try clear hk); (try clear hi)))
                                      go_roundg kj32
                                      case measure => have := HJ2.out; have := HK2.out; have := HK3.out; have := HJ32.out; omega
                                      case rel => exact ⟨(wrap64 (x9_3 + 1)), (x208000_3), (x208001_3), (x208002_3), (x208003_3), (x208004_3), (x208005_3), (by first | rfl | (simp; done) | (simp [*]; done)), H', ⟨by have := HJ2.out; have := HK2.out; have := HK3.out; have := HJ32.out; omega⟩, ⟨by (with_reducible repeat (first | apply Kd.R_alloc | apply Kd.R_drewN | apply Kd.R_drew)); exact HO_7.out⟩, ⟨by (with_reducible repeat (first | refine blk_drewN ?_ _ | refine blk_drew ?_ | refine blk_alloc ?_ _)); exact BK207.out⟩, ⟨by repeat (first | (with_reducible first | exact HB.out | apply below_alloc | apply pw_below_drewN | apply below_drew1 | refine below_set ?_ GE207.out | refine below_set ?_ GE240.out) | exact HB.out)⟩⟩
                              · rw [if_neg c31] at H
                                exact absurd H (by simp)
                            · rw [if_neg c30] at H
                              exact absurd H (by simp)
                          · rw [if_neg c29] at H
                            exact absurd H (by simp)
                        · rw [if_neg c28] at H
                          exact absurd H (by simp)
                      · rw [if_neg c27] at H
                        have c27b0 : decide (x9_3 ≤ 6) = false := decide_eq_false c27
                        clear c27
                        simp only [Option.some.injEq, Prod.mk.injEq] at H
                        obtain ⟨rfl, rfl, rfl, rfl, rfl, rfl, rfl⟩ := H
                        have hcz78_0 : wr.cell? ⟨gb207, 0, none⟩ = some (.int .i64 x208000_3) := (blk_cell BK207.out 0).trans rfl
                        have hcz78_1 : wr.cell? ⟨gb207, 1, none⟩ = some (.int .i64 x208001_3) := (blk_cell BK207.out 1).trans rfl
                        have hcz78_2 : wr.cell? ⟨gb207, 2, none⟩ = some (.int .i64 x208002_3) := (blk_cell BK207.out 2).trans rfl
                        have hcz78_3 : wr.cell? ⟨gb207, 3, none⟩ = some (.int .i64 x208003_3) := (blk_cell BK207.out 3).trans rfl
                        have hcz78_4 : wr.cell? ⟨gb207, 4, none⟩ = some (.int .i64 x208004_3) := (blk_cell BK207.out 4).trans rfl
                        have hcz78_5 : wr.cell? ⟨gb207, 5, none⟩ = some (.int .i64 x208005_3) := (blk_cell BK207.out 5).trans rfl
                        have hfz78_0 := blk_frozen BK207.out 0
                        have hfz78_1 := blk_frozen BK207.out 1
                        have hfz78_2 := blk_frozen BK207.out 2
                        have hfz78_3 := blk_frozen BK207.out 3
                        have hfz78_4 := blk_frozen BK207.out 4
                        have hfz78_5 := blk_frozen BK207.out 5
                        go_wp2
                        refine bodyPost_ret (results_ct rfl _ _ gb207 27 #[.int .i64 0, .int .i64 0, .int .i64 0, .int .i64 0, .int .i64 0, .int .i64 0] (0, 0) _ rfl (by (with_reducible repeat (first | refine blk_drewN ?_ _ | refine blk_drew ?_ | refine blk_alloc ?_ _)); refine blk_put (cs := #[.int .i64 0, .int .i64 0, .int .i64 0, .int .i64 0, .int .i64 0, .int .i64 x208005_3]) ?_ 5 _ rfl; (with_reducible repeat (first | refine blk_drewN ?_ _ | refine blk_drew ?_ | refine blk_alloc ?_ _)); refine blk_put (cs := #[.int .i64 0, .int .i64 0, .int .i64 0, .int .i64 0, .int .i64 x208004_3, .int .i64 x208005_3]) ?_ 4 _ rfl; (with_reducible repeat (first | refine blk_drewN ?_ _ | refine blk_drew ?_ | refine blk_alloc ?_ _)); refine blk_put (cs := #[.int .i64 0, .int .i64 0, .int .i64 0, .int .i64 x208003_3, .int .i64 x208004_3, .int .i64 x208005_3]) ?_ 3 _ rfl; (with_reducible repeat (first | refine blk_drewN ?_ _ | refine blk_drew ?_ | refine blk_alloc ?_ _)); refine blk_put (cs := #[.int .i64 0, .int .i64 0, .int .i64 x208002_3, .int .i64 x208003_3, .int .i64 x208004_3, .int .i64 x208005_3]) ?_ 2 _ rfl; (with_reducible repeat (first | refine blk_drewN ?_ _ | refine blk_drew ?_ | refine blk_alloc ?_ _)); refine blk_put (cs := #[.int .i64 0, .int .i64 x208001_3, .int .i64 x208002_3, .int .i64 x208003_3, .int .i64 x208004_3, .int .i64 x208005_3]) ?_ 1 _ rfl; (with_reducible repeat (first | refine blk_drewN ?_ _ | refine blk_drew ?_ | refine blk_alloc ?_ _)); refine blk_put (cs := #[.int .i64 x208000_3, .int .i64 x208001_3, .int .i64 x208002_3, .int .i64 x208003_3, .int .i64 x208004_3, .int .i64 x208005_3]) ?_ 0 _ rfl; (with_reducible repeat (first | refine blk_drewN ?_ _ | refine blk_drew ?_ | refine blk_alloc ?_ _)); exact BK207.out) Tryd.underlying27 rfl (by kernel_rfl)) rfl ?_
                        exact ⟨by first | rfl | (simp [errW_none, errW_some] <;> rfl) | (simp [*, errW_none, errW_some] <;> rfl), by repeat (first | (with_reducible first | exact HB.out | apply below_alloc | apply pw_below_drewN | apply below_drew1 | refine below_set ?_ GE207.out) | exact HB.out)⟩
                · rw [if_neg c22] at H
                  exact absurd H (by simp)
        · rw [if_neg c11] at H
          exact absurd H (by simp)

end Go.Proofs.YtcpmkcidehhbiaaDoor.PFnExactParseStmt
