/- Walks of the functions that a statement reaches, written by a program (the printing program, mended): no condition. -/
import Derived.Test.YtcpmkcidehhbiaaGreatDoorPFnExactParseProgramx0
import Derived.Test.YtcpmkcidehhbiaaGreatDoorPFnExactParseProgramx5
import Derived.Test.YtcpmkcidehhbiaaGreatDoorPFnExactParseProgramx7
import Derived.Test.YtcpmkcidehhbiaaGreatDoorPFnExactParseProgramx8
import Derived.Test.YtcpmkcidehhbiaaGreatDoorPFnExactParseProgramx9
import Derived.Test.YtcpmkcidehhbiaaGreatDoorPFnExactParseProgramx10
namespace Go.Proofs.YtcpmkcidehhbiaaGreatDoor.PFnExactParseProgram
open Go.RowKit Go.Proofs.YtcpmkcidehhbiaaGreatDoorW.PrintWords Go.Proofs.YtcpmkcidehhbiaaGreatDoorW.PrintLast Go.Proofs.YtcpmkcidehhbiaaGreatDoorW.PrintMore
attribute [local go_sem] max2_int min2_int max_two min_two max_three min_three max_four min_four
set_option linter.unusedVariables false
set_option maxRecDepth 100000
set_option maxHeartbeats 8000000
set_option linter.unusedSimpArgs false
mutual
def spec_ParseProgram.l0 : Nat → ByteArray → Int → Int → Int → List (S40) → Option ((List (S40)) × Int)
 | 0, _, _, _, _, _ => none
 | k + 1, x0, x6, x7, x8, x240000 => if x8 ≤ (x0.size : Int) then (if x8 < (x0.size : Int) then (if 0 ≤ x8 then (if (bt x0 x8) = 10 then (if x8 = (x0.size : Int) then (spec_ParseProgram.j1 k x0 x6 x7 x8 (x6 == x8) x240000) else (spec_ParseProgram.j1 k x0 x6 x7 x8 false x240000)) else (spec_ParseProgram.j1 k x0 x6 x7 x8 true x240000)) else (none)) else (if x8 = (x0.size : Int) then (spec_ParseProgram.j1 k x0 x6 x7 x8 (x6 == x8) x240000) else (spec_ParseProgram.j1 k x0 x6 x7 x8 false x240000))) else ((spec_ProgramText.f k x240000).bind fun t262 => (if t262.toList = x0.toList then ((spec_ProgramOk.f k x240000).bind fun t263 => (if t263 = true then (some (x240000, 0)) else (some (([] : List (S40)), (-2))))) else (some (([] : List (S40)), (-2)))))
def spec_ParseProgram.j1 : Nat → ByteArray → Int → Int → Int → Bool → List (S40) → Option ((List (S40)) × Int)
 | 0, _, _, _, _, _, _ => none
 | k + 1, x0, x6, x7, x8, x47, x240000 => if x47 = true then (spec_ParseProgram.l0 k x0 x6 x7 (wrap64 (x8 + 1)) x240000) else (if 0 ≤ x6 then (if x6 ≤ x8 then (if x8 ≤ (x0.size : Int) then ((spec_l06Head.f k (x0.extract (x6 : Int).toNat (x8 : Int).toNat)).bind fun bt240 => ((spec_ParseStmt.f k (x0.extract (x6 : Int).toNat (x8 : Int).toNat)).bind fun bt245 => (if bt240.2.2.2 = true then (if x240000.length < 2932031007402 then (spec_ParseProgram.l0 k x0 (wrap64 (x8 + 1)) (wrap64 (x7 + 1)) (wrap64 (x8 + 1)) (x240000 ++ [(⟨([] : List (S35)), (⟨bt240.1, bt240.2.1, bt240.2.2.1⟩ : S31)⟩ : S40)])) else (none)) else (if bt245.2.2.2.2.2.2 = true then ((spec_FormatStmt.f k bt245.1 bt245.2.1 bt245.2.2.1 bt245.2.2.2.1 bt245.2.2.2.2.1 bt245.2.2.2.2.2.1).bind fun t256 => (spec_ParseProgram.j2 k x0 (wrap64 (x8 + 1)) (wrap64 (x7 + 1)) x8 (t256.toList == (x0.extract (x6 : Int).toNat (x8 : Int).toNat).toList) x240000 bt245.1 bt245.2.1 bt245.2.2.1 bt245.2.2.2.1 bt245.2.2.2.2.1 bt245.2.2.2.2.2.1)) else (spec_ParseProgram.j2 k x0 (wrap64 (x8 + 1)) (wrap64 (x7 + 1)) x8 false x240000 bt245.1 bt245.2.1 bt245.2.2.1 bt245.2.2.2.1 bt245.2.2.2.2.1 bt245.2.2.2.2.2.1))))) else (none)) else (none)) else (none))
def spec_ParseProgram.j2 : Nat → ByteArray → Int → Int → Int → Bool → List (S40) → Int → Int → Int → Int → Int → Int → Option ((List (S40)) × Int)
 | 0, _, _, _, _, _, _, _, _, _, _, _, _ => none
 | k + 1, x0, x6, x7, x8, x77, x240000, x253000, x253001, x253002, x253003, x253004, x253005 => if x77 = true then (if (x240000.length : Int) > 0 then (if 0 ≤ (wrap64 ((x240000.length : Int) - 1)) then (if (wrap64 ((x240000.length : Int) - 1)) < (x240000.length : Int) then (if ((rd_T40 x240000 (wrap64 ((x240000.length : Int) - 1))).f0).length < 2932031007402 then (spec_ParseProgram.l0 k x0 x6 x7 (wrap64 (x8 + 1)) (x240000.set ((wrap64 ((x240000.length : Int) - 1)) : Int).toNat (⟨(((rd_T40 x240000 (wrap64 ((x240000.length : Int) - 1))).f0) ++ [(⟨x253000, x253001, x253002, (⟨x253003, x253004, x253005⟩ : S31)⟩ : S35)]), (⟨(rd_T40 x240000 (wrap64 ((x240000.length : Int) - 1))).f1.f0, (rd_T40 x240000 (wrap64 ((x240000.length : Int) - 1))).f1.f1, (rd_T40 x240000 (wrap64 ((x240000.length : Int) - 1))).f1.f2⟩ : S31)⟩ : S40))) else (none)) else (none)) else (none)) else (spec_ParseProgram.l0 k x0 x6 x7 (wrap64 (x8 + 1)) x240000)) else (some (([] : List (S40)), x7))
end
def spec_ParseProgram.f (k : Nat) (a0 : ByteArray) : Option ((List (S40)) × Int) := if (a0.size : Int) > 20000 then (some (([] : List (S40)), (-1))) else (spec_ParseProgram.l0 k a0 0 0 0 ([] : List (S40)))
theorem spec_ParseProgram.mono_l : ∀ k, (∀ y0 y1 y2 y3 y4, LeO (spec_ParseProgram.l0 k y0 y1 y2 y3 y4) (spec_ParseProgram.l0 (k + 1) y0 y1 y2 y3 y4)) ∧ (∀ y0 y1 y2 y3 y4 y5, LeO (spec_ParseProgram.j1 k y0 y1 y2 y3 y4 y5) (spec_ParseProgram.j1 (k + 1) y0 y1 y2 y3 y4 y5)) ∧ (∀ y0 y1 y2 y3 y4 y5 y6 y7 y8 y9 y10 y11, LeO (spec_ParseProgram.j2 k y0 y1 y2 y3 y4 y5 y6 y7 y8 y9 y10 y11) (spec_ParseProgram.j2 (k + 1) y0 y1 y2 y3 y4 y5 y6 y7 y8 y9 y10 y11))
 | 0 => ⟨fun _ _ _ _ _ r h => by simp [spec_ParseProgram.l0] at h, fun _ _ _ _ _ _ r h => by simp [spec_ParseProgram.j1] at h, fun _ _ _ _ _ _ _ _ _ _ _ _ r h => by simp [spec_ParseProgram.j2] at h⟩
 | k + 1 => by
  obtain ⟨ih0, ih1, ih2⟩ := spec_ParseProgram.mono_l k
  refine ⟨?_, ?_, ?_⟩
  intro y0 y1 y2 y3 y4; unfold spec_ParseProgram.l0; rotate_left; intro y0 y1 y2 y3 y4 y5; unfold spec_ParseProgram.j1; rotate_left; intro y0 y1 y2 y3 y4 y5 y6 y7 y8 y9 y10 y11; unfold spec_ParseProgram.j2; rotate_left
  all_goals repeat' first | (with_reducible first | exact ih0 _ _ _ _ _ | exact ih1 _ _ _ _ _ _ | exact ih2 _ _ _ _ _ _ _ _ _ _ _ _ | exact spec_FormatStmt.mono _ _ _ _ _ _ _ | exact spec_ParseStmt.mono _ _ | exact spec_ProgramOk.mono _ _ | exact spec_ProgramText.mono _ _ | exact spec_l06Head.mono _ _ | exact LeO.refl _ | exact LeO.none _ | refine LeO.ite ?_ ?_ | refine LeO.bind ?_ (fun _ => ?_)) | exact ih0 _ _ _ _ _ | exact ih1 _ _ _ _ _ _ | exact ih2 _ _ _ _ _ _ _ _ _ _ _ _ | exact spec_FormatStmt.mono _ _ _ _ _ _ _ | exact spec_ParseStmt.mono _ _ | exact spec_ProgramOk.mono _ _ | exact spec_ProgramText.mono _ _ | exact spec_l06Head.mono _ _ | exact LeO.none _ | refine LeO.ite ?_ ?_ | refine LeO.bind ?_ (fun _ => ?_)
theorem spec_ParseProgram.mono : ∀ a0 k, LeO (spec_ParseProgram.f k a0) (spec_ParseProgram.f (k + 1) a0) := by
 intro a0 k
 obtain ⟨ih0, ih1, ih2⟩ := spec_ParseProgram.mono_l k
 unfold spec_ParseProgram.f
 repeat' first | (with_reducible first | exact ih0 _ _ _ _ _ | exact ih1 _ _ _ _ _ _ | exact ih2 _ _ _ _ _ _ _ _ _ _ _ _ | exact spec_FormatStmt.mono _ _ _ _ _ _ _ | exact spec_ParseStmt.mono _ _ | exact spec_ProgramOk.mono _ _ | exact spec_ProgramText.mono _ _ | exact spec_l06Head.mono _ _ | exact LeO.refl _ | exact LeO.none _ | refine LeO.ite ?_ ?_ | refine LeO.bind ?_ (fun _ => ?_)) | exact ih0 _ _ _ _ _ | exact ih1 _ _ _ _ _ _ | exact ih2 _ _ _ _ _ _ _ _ _ _ _ _ | exact spec_FormatStmt.mono _ _ _ _ _ _ _ | exact spec_ParseStmt.mono _ _ | exact spec_ProgramOk.mono _ _ | exact spec_ProgramText.mono _ _ | exact spec_l06Head.mono _ _ | exact LeO.none _ | refine LeO.ite ?_ ?_ | refine LeO.bind ?_ (fun _ => ?_)
def spec_ParseProgram.T22 : Bool × List (List Nat × List Nat) := (true, [([], []), ([0], [0]), ([], []), ([], []), ([3], [3]), ([], []), ([4, 5], [4, 5]), ([6], [6]), ([7], [7]), ([], []), ([9], [9]), ([8, 10], [8, 10]), ([1, 2, 0, 1, 2, 3, 4, 5, 6, 7, 8, 9, 10, 11], [1, 2]), ([12, 0, 1, 2, 3, 4, 5, 6, 7, 8, 9, 10, 11], [12]), ([13, 11, 11, 0, 1, 2, 3, 4, 5, 6, 7, 8, 9, 10, 11], [11, 13])])
def spec_ParseProgram.B22 : List Nat := [0, 1, 0, 0, 8, 0, 56, 120, 248, 0, 512, 2040, 4095, 8191, 16383]
theorem spec_ParseProgram.tab22 : rtab .any (opsOf Tryz.f4 22) = spec_ParseProgram.T22 := by kernel_rfl
theorem spec_ParseProgram.bits22 : waitsOk spec_ParseProgram.T22.2 spec_ParseProgram.B22 = true := by kernel_rfl
theorem spec_ParseProgram.calls (k : Nat) (a0 : ByteArray) (r1 : List (S40)) (r2 : Int) (w : World) (h : spec_ParseProgram.f k a0 = some (r1, r2)) :
  Calls Tryz.prog 4 #[.string a0] w fun e w' => ∃ v0_ : Value, e = .returned (.tuple #[.agg #[v0_], .int .i64 r2]) ∧ Kd.S k40 40 w' w.heap.size (fun _ => True) v0_ r1 ∧ Below w.heap.size w w' := by
 have hu24 := Tryz.underlying24
 have hu31 := Tryz.underlying31
 have hu35 := Tryz.underlying35
 have hu40 := Tryz.underlying40
 have HB := zM (Below.refl w.heap.size w)
 have H : (if (a0.size : Int) > 20000 then (some (([] : List (S40)), (-1))) else (spec_ParseProgram.l0 k a0 0 0 0 ([] : List (S40)))) = some (r1, r2) := h
 clear h
 by_cases c2 : (a0.size : Int) > 20000
 ·rw [if_pos c2] at H
  have c2b0 : decide (20000 < (a0.size : Int)) = true := decide_eq_true c2
  have c2b1 : decide (20000 < a0.size) = true := decide_eq_true (by omega)
  clear c2
  simp only [Option.some.injEq, Prod.mk.injEq] at H
  obtain ⟨rfl, rfl⟩ := H
  go_enter Tryz.func4, Tryz.ntmps4
  go_wp2_with (first | ((with_reducible refine gate_dst (N := 2) rfl ?_); (try (refine gate_guard (by rfl) ?_; dsimp only)); refine box_event ?hg (N := 2) ?hd (cs := #[.slice none 0 0]) (t := 24) ?hr ?_; (case hd => rfl); (case hg => rfl); (case hr => first | (go_simp; done) | (go_simp; rfl)); intro gb237 hg w3 hbox hb; have n0_ := zM (zQ zb hb); have n1_ := zM (hbox); have n2_ := zM ((by rw [hg]; exact (zR zb) : w.heap.size ≤ gb237)); have n3_ := zM ((by rw [hg]; exact (zR zb) : w.heap.size ≤ gb237)); clear HB; have HB := n0_; have BK237 := n1_; have GW237 := n2_; have GE237 := n3_; clear n0_ n1_ n2_ n3_; clear hb hbox hg) | ((with_reducible refine gate_dst (N := 4) rfl ?_); (try (refine gate_guard (by rfl) ?_; dsimp only)); refine box_event ?hg (N := 4) ?hd (cs := #[.slice none 0 0]) (t := 24) ?hr ?_; (case hd => rfl); (case hg => rfl); (case hr => first | (go_simp; done) | (go_simp; rfl)); intro gb238 hg w4 hbox hb; have n0_ := zM (z7 (g := gb237) (o := .cells #[.slice none 0 0] 24 (0, 0)) zk hb); have n1_ := zM (zQ zb hb); have n2_ := zM (hbox); have n3_ := zM ((by rw [hg]; exact (zR zb) : w.heap.size ≤ gb238)); have n4_ := zM ((by rw [hg]; exact (zR zb) : w.heap.size ≤ gb238)); have n5_ := zM ((by rw [hg]; exact Nat.ne_of_lt (blk_lt (g := gb237) (o := .cells #[.slice none 0 0] 24 (0, 0)) zk) : gb237 ≠ gb238)); have n6_ := zM ((by rw [hg]; exact Nat.ne_of_gt (blk_lt (g := gb237) (o := .cells #[.slice none 0 0] 24 (0, 0)) zk) : gb238 ≠ gb237)); clear BK237; clear HB; have BK237 := n0_; have HB := n1_; have BK238 := n2_; have GW238 := n3_; have GE238 := n4_; have NB237_238 := n5_; have NB238_237 := n6_; clear n0_ n1_ n2_ n3_ n4_ n5_ n6_; clear hb hbox hg; have hnb5 := NB238_237.out; have hnc5 := NB237_238.out; have hcz6_0 := (z5 BK238.out 0).trans rfl; have hfz6_0 := z6 BK238.out 0) | ((with_reducible refine gate_dst (N := 5) rfl ?_); (try (refine gate_guard (by rfl) ?_; dsimp only)); refine box_event ?hg (N := 5) ?hd (cs := #[.slice none 0 0]) (t := 24) ?hr ?_; (case hd => rfl); (case hg => rfl); (case hr => first | (go_simp; done) | (go_simp; rfl)); intro gb239 hg w7 hbox hb; have n0_ := zM (z7 (g := gb237) (o := .cells #[.slice none 0 0] 24 (0, 0)) (zl NB237_238.out BK237.out) hb); have n1_ := zM (z7 (g := gb238) (o := .cells #[.slice none 0 0] 24 (0, 0)) (by (with_reducible repeat (first | refine zN ?_ _ | refine zO ?_ | refine zP ?_ _)); refine blk_put (cs := #[.slice none 0 0]) ?_ 0 _ rfl; (with_reducible repeat (first | refine zN ?_ _ | refine zO ?_ | refine zP ?_ _)); exact BK238.out) hb); have n2_ := zM (zQ zb hb); have n3_ := zM (hbox); have n4_ := zM ((by rw [hg]; exact (zR zb) : w.heap.size ≤ gb239)); have n5_ := zM ((by rw [hg]; exact (zR zb) : w.heap.size ≤ gb239)); have n6_ := zM ((by rw [hg]; exact Nat.ne_of_lt (blk_lt (g := gb237) (o := .cells #[.slice none 0 0] 24 (0, 0)) (zl NB237_238.out BK237.out)) : gb237 ≠ gb239)); have n7_ := zM ((by rw [hg]; exact Nat.ne_of_gt (blk_lt (g := gb237) (o := .cells #[.slice none 0 0] 24 (0, 0)) (zl NB237_238.out BK237.out)) : gb239 ≠ gb237)); have n8_ := zM ((by rw [hg]; exact Nat.ne_of_lt (blk_lt (g := gb238) (o := .cells #[.slice none 0 0] 24 (0, 0)) (by (with_reducible repeat (first | refine zN ?_ _ | refine zO ?_ | refine zP ?_ _)); refine blk_put (cs := #[.slice none 0 0]) ?_ 0 _ rfl; (with_reducible repeat (first | refine zN ?_ _ | refine zO ?_ | refine zP ?_ _)); exact BK238.out)) : gb238 ≠ gb239)); have n9_ := zM ((by rw [hg]; exact Nat.ne_of_gt (blk_lt (g := gb238) (o := .cells #[.slice none 0 0] 24 (0, 0)) (by (with_reducible repeat (first | refine zN ?_ _ | refine zO ?_ | refine zP ?_ _)); refine blk_put (cs := #[.slice none 0 0]) ?_ 0 _ rfl; (with_reducible repeat (first | refine zN ?_ _ | refine zO ?_ | refine zP ?_ _)); exact BK238.out)) : gb239 ≠ gb238)); clear BK237; clear BK238; clear HB; have BK237 := n0_; have BK238 := n1_; have HB := n2_; have BK239 := n3_; have GW239 := n4_; have GE239 := n5_; have NB237_239 := n6_; have NB239_237 := n7_; have NB238_239 := n8_; have NB239_238 := n9_; clear n0_ n1_ n2_ n3_ n4_ n5_ n6_ n7_ n8_ n9_; clear hb hbox hg; have hnb8 := NB239_237.out; have hnc8 := NB237_239.out; have hnb9 := NB239_238.out; have hnc9 := NB238_239.out; have hcz10_0 := (z5 BK239.out 0).trans rfl; have hfz10_0 := z6 BK239.out 0; have hcz11_0 := (z5 BK238.out 0).trans rfl; have hfz11_0 := z6 BK238.out 0; have hcz12_0 := (z5 BK237.out 0).trans rfl; have hfz12_0 := z6 BK237.out 0))
  refine bodyPost_ret (results_ct rfl _ _ gb237 24 #[.slice none 0 0] (0, 0) _ rfl (by (with_reducible repeat (first | refine zN ?_ _ | refine zO ?_ | refine zP ?_ _)); refine blk_put (cs := #[.slice none 0 0]) ?_ 0 _ rfl; (with_reducible repeat (first | refine zN ?_ _ | refine zO ?_ | refine zP ?_ _)); refine blk_far ?_ NB237_239.out _; (with_reducible repeat (first | refine zN ?_ _ | refine zO ?_ | refine zP ?_ _)); exact BK237.out) Tryz.underlying24 rfl (by kernel_rfl)) rfl ?_
  exact ⟨_, by first | rfl | (simp [errW_none, errW_some] <;> rfl) | (simp [*, errW_none, errW_some] <;> rfl), by first | exact Kd.S_nil _ _ _ _ _ | exact Kd.N_nil _ _ _ _ _ | exact Kd.V_nil _ _ _ _ _ | exact Kd.Q_nil _ _ _ _ _ | exact Kd.R_nil _ _ _ _ _, zb⟩
 rw [if_neg c2] at H
 have c2b0 : decide (20000 < (a0.size : Int)) = false := decide_eq_false c2
 have c2b1 : decide (20000 < a0.size) = false := decide_eq_false (by omega)
 clear c2
 have H' := zM H
 clear H
 go_enter Tryz.func4, Tryz.ntmps4
 go_wp2_with (first | ((with_reducible refine gate_dst (N := 2) rfl ?_); (try (refine gate_guard (by rfl) ?_; dsimp only)); refine box_event ?hg (N := 2) ?hd (cs := #[.slice none 0 0]) (t := 24) ?hr ?_; (case hd => rfl); (case hg => rfl); (case hr => first | (go_simp; done) | (go_simp; rfl)); intro gb237 hg w13 hbox hb; have n0_ := zM (zQ zb hb); have n1_ := zM (hbox); have n2_ := zM ((by rw [hg]; exact (zR zb) : w.heap.size ≤ gb237)); have n3_ := zM ((by rw [hg]; exact (zR zb) : w.heap.size ≤ gb237)); clear HB; have HB := n0_; have BK237 := n1_; have GW237 := n2_; have GE237 := n3_; clear n0_ n1_ n2_ n3_; clear hb hbox hg) | ((with_reducible refine gate_dst (N := 4) rfl ?_); (try (refine gate_guard (by rfl) ?_; dsimp only)); refine box_event ?hg (N := 4) ?hd (cs := #[.slice none 0 0]) (t := 24) ?hr ?_; (case hd => rfl); (case hg => rfl); (case hr => first | (go_simp; done) | (go_simp; rfl)); intro gb238 hg w14 hbox hb; have n0_ := zM (z7 (g := gb237) (o := .cells #[.slice none 0 0] 24 (0, 0)) zk hb); have n1_ := zM (zQ zb hb); have n2_ := zM (hbox); have n3_ := zM ((by rw [hg]; exact (zR zb) : w.heap.size ≤ gb238)); have n4_ := zM ((by rw [hg]; exact (zR zb) : w.heap.size ≤ gb238)); have n5_ := zM ((by rw [hg]; exact Nat.ne_of_lt (blk_lt (g := gb237) (o := .cells #[.slice none 0 0] 24 (0, 0)) zk) : gb237 ≠ gb238)); have n6_ := zM ((by rw [hg]; exact Nat.ne_of_gt (blk_lt (g := gb237) (o := .cells #[.slice none 0 0] 24 (0, 0)) zk) : gb238 ≠ gb237)); clear BK237; clear HB; have BK237 := n0_; have HB := n1_; have BK238 := n2_; have GW238 := n3_; have GE238 := n4_; have NB237_238 := n5_; have NB238_237 := n6_; clear n0_ n1_ n2_ n3_ n4_ n5_ n6_; clear hb hbox hg; have hnb15 := NB238_237.out; have hnc15 := NB237_238.out; have hcz16_0 := (z5 BK238.out 0).trans rfl; have hfz16_0 := z6 BK238.out 0) | ((with_reducible refine gate_dst (N := 5) rfl ?_); (try (refine gate_guard (by rfl) ?_; dsimp only)); refine box_event ?hg (N := 5) ?hd (cs := #[.slice none 0 0]) (t := 24) ?hr ?_; (case hd => rfl); (case hg => rfl); (case hr => first | (go_simp; done) | (go_simp; rfl)); intro gb239 hg w17 hbox hb; have n0_ := zM (z7 (g := gb237) (o := .cells #[.slice none 0 0] 24 (0, 0)) (zl NB237_238.out BK237.out) hb); have n1_ := zM (z7 (g := gb238) (o := .cells #[.slice none 0 0] 24 (0, 0)) (by (with_reducible repeat (first | refine zN ?_ _ | refine zO ?_ | refine zP ?_ _)); refine blk_put (cs := #[.slice none 0 0]) ?_ 0 _ rfl; (with_reducible repeat (first | refine zN ?_ _ | refine zO ?_ | refine zP ?_ _)); exact BK238.out) hb); have n2_ := zM (zQ zb hb); have n3_ := zM (hbox); have n4_ := zM ((by rw [hg]; exact (zR zb) : w.heap.size ≤ gb239)); have n5_ := zM ((by rw [hg]; exact (zR zb) : w.heap.size ≤ gb239)); have n6_ := zM ((by rw [hg]; exact Nat.ne_of_lt (blk_lt (g := gb237) (o := .cells #[.slice none 0 0] 24 (0, 0)) (zl NB237_238.out BK237.out)) : gb237 ≠ gb239)); have n7_ := zM ((by rw [hg]; exact Nat.ne_of_gt (blk_lt (g := gb237) (o := .cells #[.slice none 0 0] 24 (0, 0)) (zl NB237_238.out BK237.out)) : gb239 ≠ gb237)); have n8_ := zM ((by rw [hg]; exact Nat.ne_of_lt (blk_lt (g := gb238) (o := .cells #[.slice none 0 0] 24 (0, 0)) (by (with_reducible repeat (first | refine zN ?_ _ | refine zO ?_ | refine zP ?_ _)); refine blk_put (cs := #[.slice none 0 0]) ?_ 0 _ rfl; (with_reducible repeat (first | refine zN ?_ _ | refine zO ?_ | refine zP ?_ _)); exact BK238.out)) : gb238 ≠ gb239)); have n9_ := zM ((by rw [hg]; exact Nat.ne_of_gt (blk_lt (g := gb238) (o := .cells #[.slice none 0 0] 24 (0, 0)) (by (with_reducible repeat (first | refine zN ?_ _ | refine zO ?_ | refine zP ?_ _)); refine blk_put (cs := #[.slice none 0 0]) ?_ 0 _ rfl; (with_reducible repeat (first | refine zN ?_ _ | refine zO ?_ | refine zP ?_ _)); exact BK238.out)) : gb239 ≠ gb238)); clear BK237; clear BK238; clear HB; have BK237 := n0_; have BK238 := n1_; have HB := n2_; have BK239 := n3_; have GW239 := n4_; have GE239 := n5_; have NB237_239 := n6_; have NB239_237 := n7_; have NB238_239 := n8_; have NB239_238 := n9_; clear n0_ n1_ n2_ n3_ n4_ n5_ n6_ n7_ n8_ n9_; clear hb hbox hg; have hnb18 := NB239_237.out; have hnc18 := NB237_239.out; have hnb19 := NB239_238.out; have hnc19 := NB238_239.out; have hcz20_0 := (z5 BK239.out 0).trans rfl; have hfz20_0 := z6 BK239.out 0))
 go_loopg [6, 7, 8] k (fun kq v6 v7 v8 w' => ∃ (x6_1 : Int) (x7_1 : Int) (x8_1 : Int) (x240000_1 : List (S40)) (u240000 : Value), v6 = .int .i64 x6_1 ∧ v7 = .int .i64 x7_1 ∧ v8 = .int .i64 x8_1 ∧ Aside0 (spec_ParseProgram.l0 kq a0 x6_1 x7_1 x8_1 x240000_1 = some (r1, r2)) ∧ Aside0 (kq ≤ k) ∧ Aside0 (Kd.S k40 40 w' w.heap.size (fun _ => True) u240000 x240000_1) ∧ Aside0 (w'.heap[gb237]? = some (.cells #[(.slice none 0 0)] 24 (0, 0))) ∧ Aside0 (w'.heap[gb238]? = some (.cells #[(.slice none 0 0)] 24 (0, 0))) ∧ Aside0 (w'.heap[gb239]? = some (.cells #[u240000] 24 (0, 0))) ∧ Aside0 (Below w.heap.size w w'))
 case atStart => exact ⟨(0), (0), (0), (([] : List (S40))), (.slice none 0 0), zs, zs, zs, H', ⟨Nat.le_refl _⟩, ⟨by first | exact Kd.S_nil _ _ _ _ _ | exact Kd.N_nil _ _ _ _ _ | exact Kd.V_nil _ _ _ _ _ | exact Kd.Q_nil _ _ _ _ _ | exact Kd.R_nil _ _ _ _ _⟩, ⟨zl NB237_239.out BK237.out⟩, ⟨zl NB238_239.out BK238.out⟩, ⟨by (with_reducible repeat (first | refine zN ?_ _ | refine zO ?_ | refine zP ?_ _)); refine blk_put (cs := #[.slice none 0 0]) ?_ 0 _ rfl; (with_reducible repeat (first | refine zN ?_ _ | refine zO ?_ | refine zP ?_ _)); exact BK239.out⟩, ⟨zb⟩⟩
 case round =>
  clear H'
  try clear c1
  try clear c2
  try clear c2b0
  try clear c2b1
  try clear p2
  try clear c4
  try clear c5
  try clear c8
  try clear c9
  try clear c15
  try clear c18
  try clear c19
  try clear hcz10_0
  try clear hcz11_0
  try clear hcz12_0
  try clear hcz16_0
  try clear hcz20_0
  try clear hcz6_0
  try clear hfz10_0
  try clear hfz11_0
  try clear hfz12_0
  try clear hfz16_0
  try clear hfz20_0
  try clear hfz6_0
  obtain ⟨x6_1, x7_1, x8_1, x240000_1, u240000, rfl, rfl, rfl, HA, HK1, HO_240000, BK237, BK238, BK239, HB⟩ := hrel
  cases gk with
  | zero => exact absurd HA.out (by simp [spec_ParseProgram.l0])
  | succ k1 =>
   have H := HA.out
   clear HA
   simp only [spec_ParseProgram.l0] at H
   by_cases c21 : x8_1 ≤ (a0.size : Int)
   ·rw [if_pos c21] at H
    have c21b0 : decide (x8_1 ≤ (a0.size : Int)) = true := decide_eq_true c21
    clear c21
    have HC22 := zM H
    clear H
    go_upto_region 10 with (fail)
    go_cut [47] (fun v47 wc => ∃ (kq : Nat) (x47_21 : Bool), v47 = .bool x47_21 ∧ Aside0 (spec_ParseProgram.j1 kq a0 x6_1 x7_1 x8_1 x47_21 x240000_1 = some (r1, r2)) ∧ Aside0 (kq ≤ k1) ∧ Aside0 (Kd.S k40 40 wc w.heap.size (fun _ => True) u240000 x240000_1) ∧ Aside0 (wc.heap[gb237]? = some (.cells #[(.slice none 0 0)] 24 (0, 0))) ∧ Aside0 (wc.heap[gb238]? = some (.cells #[(.slice none 0 0)] 24 (0, 0))) ∧ Aside0 (wc.heap[gb239]? = some (.cells #[u240000] 24 (0, 0))) ∧ Aside0 (Below w.heap.size w wc))
    case first =>
     have H := HC22.out
     clear HC22
     by_cases c23 : x8_1 < (a0.size : Int)
     ·rw [if_pos c23] at H
      have c23b0 : decide (x8_1 < (a0.size : Int)) = true := decide_eq_true c23
      clear c23
      (first | rw [c23b0] | (simp only [i64_w, i32_w]; rw [c23b0]) | skip)
      by_cases c24 : 0 ≤ x8_1
      ·rw [if_pos c24] at H
       have c24b0 : decide (0 ≤ x8_1) = true := decide_eq_true c24
       clear c24
       by_cases c26 : (bt a0 x8_1) = 10
       ·rw [if_pos c26] at H
        have c26b0 : ((bt a0 x8_1) == 10) = true := beq_iff_eq.mpr c26
        have c26b1 : ((bt a0 x8_1) != 10) = false := bne_eq_false_iff_eq.mpr c26
        clear c26
        by_cases c27 : x8_1 = (a0.size : Int)
        ·rw [if_pos c27] at H
         have c27b0 : (x8_1 == (a0.size : Int)) = true := beq_iff_eq.mpr c27
         have c27b1 : (x8_1 != (a0.size : Int)) = false := bne_eq_false_iff_eq.mpr c27
         clear c27
         have H' := zM H
         clear H
         have p25 : 0 ≤ (x8_1 : Int) := zd
         have q25 : x8_1 < (a0.size : Int) := zd
         have hx25 := bt_at a0 x8_1
         replace p25 := eq_true p25
         replace q25 := eq_true q25
         go_wp2
         go_meet
         case rel => exact ⟨_, ((x6_1 == x8_1)), zs, H', ⟨by have := HK1.out; first | omega | exact Nat.le_refl _⟩, ⟨by (with_reducible repeat (first | apply zU | apply zV | apply zW)); exact HO_240000.out⟩, ⟨zk⟩, ⟨zk⟩, ⟨zk⟩, ⟨zb⟩⟩
        rw [if_neg c27] at H
        have c27b0 : (x8_1 == (a0.size : Int)) = false := beq_eq_false_iff_ne.mpr c27
        have c27b1 : (x8_1 != (a0.size : Int)) = true := bne_iff_ne.mpr c27
        have H' := zM H
        clear H
        have p25 : 0 ≤ (x8_1 : Int) := zd
        have q25 : x8_1 < (a0.size : Int) := zd
        have hx25 := bt_at a0 x8_1
        replace p25 := eq_true p25
        replace q25 := eq_true q25
        go_wp2
        go_meet
        case rel => exact ⟨_, (false), zs, H', ⟨by have := HK1.out; first | omega | exact Nat.le_refl _⟩, ⟨by (with_reducible repeat (first | apply zU | apply zV | apply zW)); exact HO_240000.out⟩, ⟨zk⟩, ⟨zk⟩, ⟨zk⟩, ⟨zb⟩⟩
       rw [if_neg c26] at H
       have c26b0 : ((bt a0 x8_1) == 10) = false := beq_eq_false_iff_ne.mpr c26
       have c26b1 : ((bt a0 x8_1) != 10) = true := bne_iff_ne.mpr c26
       have H' := zM H
       clear H
       have p25 : 0 ≤ (x8_1 : Int) := zd
       have q25 : x8_1 < (a0.size : Int) := zd
       have hx25 := bt_at a0 x8_1
       replace p25 := eq_true p25
       replace q25 := eq_true q25
       go_wp2
       go_meet
       case rel => exact ⟨_, (true), zs, H', ⟨by have := HK1.out; first | omega | exact Nat.le_refl _⟩, ⟨by (with_reducible repeat (first | apply zU | apply zV | apply zW)); exact HO_240000.out⟩, ⟨zk⟩, ⟨zk⟩, ⟨zk⟩, ⟨zb⟩⟩
      rw [if_neg c24] at H
      exact absurd H (by simp)
     rw [if_neg c23] at H
     have c23b0 : decide (x8_1 < (a0.size : Int)) = false := decide_eq_false c23
     clear c23
     (first | rw [c23b0] | (simp only [i64_w, i32_w]; rw [c23b0]) | skip)
     by_cases c28 : x8_1 = (a0.size : Int)
     ·rw [if_pos c28] at H
      have c28b0 : (x8_1 == (a0.size : Int)) = true := beq_iff_eq.mpr c28
      have c28b1 : (x8_1 != (a0.size : Int)) = false := bne_eq_false_iff_eq.mpr c28
      clear c28
      have H' := zM H
      clear H
      go_wp2
      go_meet
      case rel => exact ⟨_, ((x6_1 == x8_1)), zs, H', ⟨by have := HK1.out; first | omega | exact Nat.le_refl _⟩, ⟨by (with_reducible repeat (first | apply zU | apply zV | apply zW)); exact HO_240000.out⟩, ⟨zk⟩, ⟨zk⟩, ⟨zk⟩, ⟨zb⟩⟩
     rw [if_neg c28] at H
     have c28b0 : (x8_1 == (a0.size : Int)) = false := beq_eq_false_iff_ne.mpr c28
     have c28b1 : (x8_1 != (a0.size : Int)) = true := bne_iff_ne.mpr c28
     have H' := zM H
     clear H
     go_wp2
     go_meet
     case rel => exact ⟨_, (false), zs, H', ⟨by have := HK1.out; first | omega | exact Nat.le_refl _⟩, ⟨by (with_reducible repeat (first | apply zU | apply zV | apply zW)); exact HO_240000.out⟩, ⟨zk⟩, ⟨zk⟩, ⟨zk⟩, ⟨zb⟩⟩
    case rest =>
     clear HC22
     try clear c1
     try clear c2
     try clear c2b0
     try clear c2b1
     try clear p2
     try clear q2
     try clear hx2
     try clear c4
     try clear c5
     try clear c8
     try clear c9
     try clear c15
     try clear c18
     try clear c19
     try clear c21
     try clear c21b0
     try clear c23
     try clear c23b0
     try clear c24
     try clear c24b0
     try clear p25
     try clear q25
     try clear hx25
     try clear c26
     try clear c26b0
     try clear c26b1
     try clear c27
     try clear c27b0
     try clear c27b1
     try clear c28
     try clear c28b0
     try clear c28b1
     try clear hcz10_0
     try clear hcz11_0
     try clear hcz12_0
     try clear hcz16_0
     try clear hcz20_0
     try clear hcz6_0
     try clear hfz10_0
     try clear hfz11_0
     try clear hfz12_0
     try clear hfz16_0
     try clear hfz20_0
     try clear hfz6_0
     try clear p2
     try clear p25
     try clear q25
     obtain ⟨kq, x47_21, rfl, HA, HJ21, HO_240000, BK237, BK238, BK239, HB⟩ := hcut
     cases kq with
     | zero => exact absurd HA.out (by simp [spec_ParseProgram.j1])
     | succ kj21 =>
      have H := HA.out
      clear HA
      simp only [spec_ParseProgram.j1] at H
      by_cases c29 : x47_21 = true
      ·subst c29
       have H1 : (spec_ParseProgram.l0 kj21 a0 x6_1 x7_1 (wrap64 (x8_1 + 1)) x240000_1) = some (r1, r2) := by rw [if_pos rfl] at H; exact H
       clear H
       have H := H1
       clear H1
       have H' := zM H
       clear H
       go_wp2
       go_roundg kj21
       case measure => have := HK1.out; have := HJ21.out; omega
       case rel => exact ⟨(x6_1), (x7_1), (wrap64 (x8_1 + 1)), (x240000_1), (u240000), zs, zs, zs, H', ⟨by have := HK1.out; have := HJ21.out; omega⟩, ⟨by (with_reducible repeat (first | apply zU | apply zV | apply zW)); exact HO_240000.out⟩, ⟨zk⟩, ⟨zk⟩, ⟨zk⟩, ⟨zb⟩⟩
      replace c29 := Bool.eq_false_iff.mpr c29
      subst c29
      have H1 : (if 0 ≤ x6_1 then (if x6_1 ≤ x8_1 then (if x8_1 ≤ (a0.size : Int) then ((spec_l06Head.f kj21 (a0.extract (x6_1 : Int).toNat (x8_1 : Int).toNat)).bind fun bt240 => ((spec_ParseStmt.f kj21 (a0.extract (x6_1 : Int).toNat (x8_1 : Int).toNat)).bind fun bt245 => (if bt240.2.2.2 = true then (if x240000_1.length < 2932031007402 then (spec_ParseProgram.l0 kj21 a0 (wrap64 (x8_1 + 1)) (wrap64 (x7_1 + 1)) (wrap64 (x8_1 + 1)) (x240000_1 ++ [(⟨([] : List (S35)), (⟨bt240.1, bt240.2.1, bt240.2.2.1⟩ : S31)⟩ : S40)])) else (none)) else (if bt245.2.2.2.2.2.2 = true then ((spec_FormatStmt.f kj21 bt245.1 bt245.2.1 bt245.2.2.1 bt245.2.2.2.1 bt245.2.2.2.2.1 bt245.2.2.2.2.2.1).bind fun t256 => (spec_ParseProgram.j2 kj21 a0 (wrap64 (x8_1 + 1)) (wrap64 (x7_1 + 1)) x8_1 (t256.toList == (a0.extract (x6_1 : Int).toNat (x8_1 : Int).toNat).toList) x240000_1 bt245.1 bt245.2.1 bt245.2.2.1 bt245.2.2.2.1 bt245.2.2.2.2.1 bt245.2.2.2.2.2.1)) else (spec_ParseProgram.j2 kj21 a0 (wrap64 (x8_1 + 1)) (wrap64 (x7_1 + 1)) x8_1 false x240000_1 bt245.1 bt245.2.1 bt245.2.2.1 bt245.2.2.2.1 bt245.2.2.2.2.1 bt245.2.2.2.2.2.1))))) else (none)) else (none)) else (none)) = some (r1, r2) := by rw [if_neg (show ¬ (false = true) by decide)] at H; exact H
      clear H
      have H := H1
      clear H1
      by_cases c30 : 0 ≤ x6_1
      ·rw [if_pos c30] at H
       have c30b0 := eq_true c30
       have c30b1 : decide (0 ≤ x6_1) = true := decide_eq_true c30
       clear c30
       by_cases c31 : x6_1 ≤ x8_1
       ·rw [if_pos c31] at H
        have c31b0 := eq_true c31
        have c31b1 : decide (x6_1 ≤ x8_1) = true := decide_eq_true c31
        clear c31
        by_cases c32 : x8_1 ≤ (a0.size : Int)
        ·rw [if_pos c32] at H
         have c32b0 := eq_true c32
         have c32b1 : decide (x8_1 ≤ (a0.size : Int)) = true := decide_eq_true c32
         clear c32
         replace H := Option.bind_eq_some_iff.mp H
         obtain ⟨⟨t240, t241, t242, t243⟩, A330, H⟩ := H
         replace H : ((spec_ParseStmt.f kj21 (a0.extract (x6_1 : Int).toNat (x8_1 : Int).toNat)).bind fun bt245 => (if t243 = true then (if x240000_1.length < 2932031007402 then (spec_ParseProgram.l0 kj21 a0 (wrap64 (x8_1 + 1)) (wrap64 (x7_1 + 1)) (wrap64 (x8_1 + 1)) (x240000_1 ++ [(⟨([] : List (S35)), (⟨t240, t241, t242⟩ : S31)⟩ : S40)])) else (none)) else (if bt245.2.2.2.2.2.2 = true then ((spec_FormatStmt.f kj21 bt245.1 bt245.2.1 bt245.2.2.1 bt245.2.2.2.1 bt245.2.2.2.2.1 bt245.2.2.2.2.2.1).bind fun t256 => (spec_ParseProgram.j2 kj21 a0 (wrap64 (x8_1 + 1)) (wrap64 (x7_1 + 1)) x8_1 (t256.toList == (a0.extract (x6_1 : Int).toNat (x8_1 : Int).toNat).toList) x240000_1 bt245.1 bt245.2.1 bt245.2.2.1 bt245.2.2.2.1 bt245.2.2.2.2.1 bt245.2.2.2.2.2.1)) else (spec_ParseProgram.j2 kj21 a0 (wrap64 (x8_1 + 1)) (wrap64 (x7_1 + 1)) x8_1 false x240000_1 bt245.1 bt245.2.1 bt245.2.2.1 bt245.2.2.2.1 bt245.2.2.2.2.1 bt245.2.2.2.2.2.1)))) = some (r1, r2) := H
         have A33 := zM A330
         clear A330
         replace H := Option.bind_eq_some_iff.mp H
         obtain ⟨⟨t245, t246, t247, t248, t249, t250, t251⟩, A340, H⟩ := H
         replace H : (if t243 = true then (if x240000_1.length < 2932031007402 then (spec_ParseProgram.l0 kj21 a0 (wrap64 (x8_1 + 1)) (wrap64 (x7_1 + 1)) (wrap64 (x8_1 + 1)) (x240000_1 ++ [(⟨([] : List (S35)), (⟨t240, t241, t242⟩ : S31)⟩ : S40)])) else (none)) else (if t251 = true then ((spec_FormatStmt.f kj21 t245 t246 t247 t248 t249 t250).bind fun t256 => (spec_ParseProgram.j2 kj21 a0 (wrap64 (x8_1 + 1)) (wrap64 (x7_1 + 1)) x8_1 (t256.toList == (a0.extract (x6_1 : Int).toNat (x8_1 : Int).toNat).toList) x240000_1 t245 t246 t247 t248 t249 t250)) else (spec_ParseProgram.j2 kj21 a0 (wrap64 (x8_1 + 1)) (wrap64 (x7_1 + 1)) x8_1 false x240000_1 t245 t246 t247 t248 t249 t250))) = some (r1, r2) := H
         have A34 := zM A340
         clear A340
         by_cases c35 : t243 = true
         ·subst c35
          have H1 : (if x240000_1.length < 2932031007402 then (spec_ParseProgram.l0 kj21 a0 (wrap64 (x8_1 + 1)) (wrap64 (x7_1 + 1)) (wrap64 (x8_1 + 1)) (x240000_1 ++ [(⟨([] : List (S35)), (⟨t240, t241, t242⟩ : S31)⟩ : S40)])) else (none)) = some (r1, r2) := by rw [if_pos rfl] at H; exact H
          clear H
          have H := H1
          clear H1
          by_cases c36 : x240000_1.length < 2932031007402
          ·rw [if_pos c36] at H
           have LMc36 := zM c36
           clear c36
           obtain ⟨y253, hyq⟩ : ∃ y_ : List (S40), y_ = (x240000_1 ++ [(⟨([] : List (S35)), (⟨t240, t241, t242⟩ : S31)⟩ : S40)]) := ⟨_, rfl⟩
           replace H : (spec_ParseProgram.l0 kj21 a0 (wrap64 (x8_1 + 1)) (wrap64 (x7_1 + 1)) (wrap64 (x8_1 + 1)) y253) = some (r1, r2) := zh
           have Ny253 := zM hyq
           clear hyq
           have H' := zM H
           clear H
           go_wp2_with (first | ((with_reducible refine gate_callee (f := 9) rfl ?_); refine goesL_ (some 58) rfl rfl Tryz.func9 (by kernel_rfl) rfl #[.string (a0.extract (x6_1 : Int).toNat (x8_1 : Int).toNat)] rfl zg ?_; (with_reducible refine (spec_l06Head.calls kj21 (a0.extract (x6_1 : Int).toNat (x8_1 : Int).toNat) t240 t241 t242 true _ A33.out).mono ?_); rintro e w37 ⟨rfl, hb⟩; refine ⟨_, rfl, ?_⟩; have n0_ := zM (Kd.S_below (by (with_reducible repeat (first | apply zU | apply zV | apply zW)); exact HO_240000.out) hb); have n1_ := zM (z7 (g := gb237) (o := .cells #[.slice none 0 0] 24 (0, 0)) zk hb); have n2_ := zM (z7 (g := gb238) (o := .cells #[.slice none 0 0] 24 (0, 0)) zk hb); have n3_ := zM (z7 (g := gb239) (o := .cells #[u240000] 24 (0, 0)) zk hb); have n4_ := zM (zQ zb hb); clear HO_240000; clear BK237; clear BK238; clear BK239; clear HB; have HO_240000 := n0_; have BK237 := n1_; have BK238 := n2_; have BK239 := n3_; have HB := n4_; clear n0_ n1_ n2_ n3_ n4_; (try clear hb); (try clear hk)) | ((with_reducible refine gate_dst (N := 10) rfl ?_); (try (refine gate_guard (by rfl) ?_; dsimp only)); refine box_event ?hg (N := 10) ?hd (cs := #[.int .i64 0, .int .i64 0, .int .i64 0]) (t := 31) ?hr ?_; (case hd => rfl); (case hg => rfl); (case hr => first | (go_simp; done) | (go_simp; rfl)); intro gb244 hg w38 hbox hb; have n0_ := zM (Kd.S_below (by (with_reducible repeat (first | apply zU | apply zV | apply zW)); exact HO_240000.out) hb); have n1_ := zM (z7 (g := gb237) (o := .cells #[.slice none 0 0] 24 (0, 0)) zk hb); have n2_ := zM (z7 (g := gb238) (o := .cells #[.slice none 0 0] 24 (0, 0)) zk hb); have n3_ := zM (z7 (g := gb239) (o := .cells #[u240000] 24 (0, 0)) zk hb); have n4_ := zM (zQ zb hb); have n5_ := zM (hbox); have n6_ := zM ((by rw [hg]; exact (zR zb) : w.heap.size ≤ gb244)); have n7_ := zM ((by rw [hg]; exact (zR zb) : w.heap.size ≤ gb244)); have n8_ := zM ((by rw [hg]; exact Nat.ne_of_lt (blk_lt (g := gb237) (o := .cells #[.slice none 0 0] 24 (0, 0)) zk) : gb237 ≠ gb244)); have n9_ := zM ((by rw [hg]; exact Nat.ne_of_gt (blk_lt (g := gb237) (o := .cells #[.slice none 0 0] 24 (0, 0)) zk) : gb244 ≠ gb237)); have n10_ := zM ((by rw [hg]; exact Nat.ne_of_lt (blk_lt (g := gb238) (o := .cells #[.slice none 0 0] 24 (0, 0)) zk) : gb238 ≠ gb244)); have n11_ := zM ((by rw [hg]; exact Nat.ne_of_gt (blk_lt (g := gb238) (o := .cells #[.slice none 0 0] 24 (0, 0)) zk) : gb244 ≠ gb238)); have n12_ := zM ((by rw [hg]; exact Nat.ne_of_lt (blk_lt (g := gb239) (o := .cells #[u240000] 24 (0, 0)) zk) : gb239 ≠ gb244)); have n13_ := zM ((by rw [hg]; exact Nat.ne_of_gt (blk_lt (g := gb239) (o := .cells #[u240000] 24 (0, 0)) zk) : gb244 ≠ gb239)); clear HO_240000; clear BK237; clear BK238; clear BK239; clear HB; have HO_240000 := n0_; have BK237 := n1_; have BK238 := n2_; have BK239 := n3_; have HB := n4_; have BK244 := n5_; have GW244 := n6_; have GE244 := n7_; have NB237_244 := n8_; have NB244_237 := n9_; have NB238_244 := n10_; have NB244_238 := n11_; have NB239_244 := n12_; have NB244_239 := n13_; clear n0_ n1_ n2_ n3_ n4_ n5_ n6_ n7_ n8_ n9_ n10_ n11_ n12_ n13_; clear hb hbox hg; have hnb39 := NB244_237.out; have hnc39 := NB237_244.out; have hnb40 := NB244_238.out; have hnc40 := NB238_244.out; have hnb41 := NB244_239.out; have hnc41 := NB239_244.out; have hcz42_0 := (z5 BK244.out 0).trans rfl; have hcz42_1 := (z5 BK244.out 1).trans rfl; have hcz42_2 := (z5 BK244.out 2).trans rfl; have hfz42_0 := z6 BK244.out 0; have hfz42_1 := z6 BK244.out 1; have hfz42_2 := z6 BK244.out 2) | ((with_reducible refine gate_callee (f := 10) rfl ?_); refine goesL_ (some 63) rfl rfl Tryz.func10 (by kernel_rfl) rfl #[.string (a0.extract (x6_1 : Int).toNat (x8_1 : Int).toNat)] rfl zg ?_; (with_reducible refine (spec_ParseStmt.calls kj21 (a0.extract (x6_1 : Int).toNat (x8_1 : Int).toNat) t245 t246 t247 t248 t249 t250 t251 _ A34.out).mono ?_); rintro e w43 ⟨rfl, hb⟩; refine ⟨_, rfl, ?_⟩; have n0_ := zM (Kd.S_below (by (with_reducible repeat (first | apply zU | apply zV | apply zW)); exact (Kd.S_mono (Kd.S_far (p := ⟨gb244, 2, none⟩) (Kd.S_far (p := ⟨gb244, 1, none⟩) (Kd.S_far (p := ⟨gb244, 0, none⟩) (Kd.S_types HO_240000.out BK244.out (by decide)) (fun _ hk => hk.2) (.int .i64 t240)) (fun _ hk => hk.2) (.int .i64 t241)) (fun _ hk => hk.2) (.int .i64 t242)) (fun _ h_ => h_.1))) hb); have n1_ := zM (z7 (g := gb237) (o := .cells #[.slice none 0 0] 24 (0, 0)) (zl NB237_244.out BK237.out) hb); have n2_ := zM (z7 (g := gb238) (o := .cells #[.slice none 0 0] 24 (0, 0)) (zl NB238_244.out BK238.out) hb); have n3_ := zM (z7 (g := gb239) (o := .cells #[u240000] 24 (0, 0)) (zl NB239_244.out BK239.out) hb); have n4_ := zM (z7 (g := gb244) (o := .cells #[.int .i64 t240, .int .i64 t241, .int .i64 t242] 31 (0, 0)) (by (with_reducible repeat (first | refine zN ?_ _ | refine zO ?_ | refine zP ?_ _)); refine blk_put (cs := #[.int .i64 t240, .int .i64 t241, .int .i64 0]) ?_ 2 _ rfl; (with_reducible repeat (first | refine zN ?_ _ | refine zO ?_ | refine zP ?_ _)); refine blk_put (cs := #[.int .i64 t240, .int .i64 0, .int .i64 0]) ?_ 1 _ rfl; (with_reducible repeat (first | refine zN ?_ _ | refine zO ?_ | refine zP ?_ _)); refine blk_put (cs := #[.int .i64 0, .int .i64 0, .int .i64 0]) ?_ 0 _ rfl; (with_reducible repeat (first | refine zN ?_ _ | refine zO ?_ | refine zP ?_ _)); exact BK244.out) hb); have n5_ := zM (zQ zb hb); clear HO_240000; clear BK237; clear BK238; clear BK239; clear BK244; clear HB; have HO_240000 := n0_; have BK237 := n1_; have BK238 := n2_; have BK239 := n3_; have BK244 := n4_; have HB := n5_; clear n0_ n1_ n2_ n3_ n4_ n5_; (try clear hb); (try clear hk)) | ((with_reducible refine gate_dst (N := 12) rfl ?_); (try (refine gate_guard (by rfl) ?_; dsimp only)); refine box_event ?hg (N := 12) ?hd (cs := #[.int .i64 0, .int .i64 0, .int .i64 0, .int .i64 0, .int .i64 0, .int .i64 0]) (t := 35) ?hr ?_; (case hd => rfl); (case hg => rfl); (case hr => first | (go_simp; done) | (go_simp; rfl)); intro gb252 hg w44 hbox hb; have n0_ := zM (Kd.S_below (Kd.S_elderB (by (with_reducible repeat (first | apply zU | apply zV | apply zW)); exact HO_240000.out) gb252 (Nat.le_of_eq hg.symm)) hb); have n1_ := zM (z7 (g := gb237) (o := .cells #[.slice none 0 0] 24 (0, 0)) zk hb); have n2_ := zM (z7 (g := gb238) (o := .cells #[.slice none 0 0] 24 (0, 0)) zk hb); have n3_ := zM (z7 (g := gb239) (o := .cells #[u240000] 24 (0, 0)) zk hb); have n4_ := zM (z7 (g := gb244) (o := .cells #[.int .i64 t240, .int .i64 t241, .int .i64 t242] 31 (0, 0)) zk hb); have n5_ := zM (zQ zb hb); have n6_ := zM (hbox); have n7_ := zM ((by rw [hg]; exact (zR zb) : w.heap.size ≤ gb252)); have n8_ := zM ((by rw [hg]; exact (zR zb) : w.heap.size ≤ gb252)); have n9_ := zM ((by rw [hg]; exact Nat.ne_of_lt (blk_lt (g := gb237) (o := .cells #[.slice none 0 0] 24 (0, 0)) zk) : gb237 ≠ gb252)); have n10_ := zM ((by rw [hg]; exact Nat.ne_of_gt (blk_lt (g := gb237) (o := .cells #[.slice none 0 0] 24 (0, 0)) zk) : gb252 ≠ gb237)); have n11_ := zM ((by rw [hg]; exact Nat.ne_of_lt (blk_lt (g := gb238) (o := .cells #[.slice none 0 0] 24 (0, 0)) zk) : gb238 ≠ gb252)); have n12_ := zM ((by rw [hg]; exact Nat.ne_of_gt (blk_lt (g := gb238) (o := .cells #[.slice none 0 0] 24 (0, 0)) zk) : gb252 ≠ gb238)); have n13_ := zM ((by rw [hg]; exact Nat.ne_of_lt (blk_lt (g := gb239) (o := .cells #[u240000] 24 (0, 0)) zk) : gb239 ≠ gb252)); have n14_ := zM ((by rw [hg]; exact Nat.ne_of_gt (blk_lt (g := gb239) (o := .cells #[u240000] 24 (0, 0)) zk) : gb252 ≠ gb239)); have n15_ := zM ((by rw [hg]; exact Nat.ne_of_lt (blk_lt (g := gb244) (o := .cells #[.int .i64 t240, .int .i64 t241, .int .i64 t242] 31 (0, 0)) zk) : gb244 ≠ gb252)); have n16_ := zM ((by rw [hg]; exact Nat.ne_of_gt (blk_lt (g := gb244) (o := .cells #[.int .i64 t240, .int .i64 t241, .int .i64 t242] 31 (0, 0)) zk) : gb252 ≠ gb244)); clear HO_240000; clear BK237; clear BK238; clear BK239; clear BK244; clear HB; have HO_240000 := n0_; have BK237 := n1_; have BK238 := n2_; have BK239 := n3_; have BK244 := n4_; have HB := n5_; have BK252 := n6_; have GW252 := n7_; have GE252 := n8_; have NB237_252 := n9_; have NB252_237 := n10_; have NB238_252 := n11_; have NB252_238 := n12_; have NB239_252 := n13_; have NB252_239 := n14_; have NB244_252 := n15_; have NB252_244 := n16_; clear n0_ n1_ n2_ n3_ n4_ n5_ n6_ n7_ n8_ n9_ n10_ n11_ n12_ n13_ n14_ n15_ n16_; clear hb hbox hg; have hnb45 := NB252_237.out; have hnc45 := NB237_252.out; have hnb46 := NB252_238.out; have hnc46 := NB238_252.out; have hnb47 := NB252_239.out; have hnc47 := NB239_252.out; have hnb48 := NB252_244.out; have hnc48 := NB244_252.out; have hcz49_0 := (z5 BK252.out 0).trans rfl; have hcz49_1 := (z5 BK252.out 1).trans rfl; have hcz49_2 := (z5 BK252.out 2).trans rfl; have hcz49_3 := (z5 BK252.out 3).trans rfl; have hcz49_4 := (z5 BK252.out 4).trans rfl; have hcz49_5 := (z5 BK252.out 5).trans rfl; have hfz49_0 := z6 BK252.out 0; have hfz49_1 := z6 BK252.out 1; have hfz49_2 := z6 BK252.out 2; have hfz49_3 := z6 BK252.out 3; have hfz49_4 := z6 BK252.out 4; have hfz49_5 := z6 BK252.out 5; have hnb50 := NB239_237.out; have hnc50 := NB237_239.out; have hnb51 := NB239_238.out; have hnc51 := NB238_239.out; have hcz52_0 := (z5 BK239.out 0).trans rfl; have hfz52_0 := z6 BK239.out 0; have hcz53_0 := (z5 BK244.out 0).trans rfl; have hcz53_1 := (z5 BK244.out 1).trans rfl; have hcz53_2 := (z5 BK244.out 2).trans rfl; have hfz53_0 := z6 BK244.out 0; have hfz53_1 := z6 BK244.out 1; have hfz53_2 := z6 BK244.out 2) | ((with_reducible refine gate_builtin (b := .append) (xs := #[.tmp 71, .tmp 74]) rfl ?_); (try (refine gate_guard (by rfl) ?_; dsimp only)); at_builtin; refine Kd.S_append k40 (w0 := w) w.heap.size rfl (.tmp 71) (.tmp 74) 22 40 (.agg #[(.slice none 0 0), (.int .i64 0), (.int .i64 0), (.int .i64 0)]) 48 rfl Tryz.underlying22 info40 rfl (by decide) (by omega) u240000 x240000_1 (⟨([] : List (S35)), (⟨t240, t241, t242⟩ : S31)⟩ : S40) [.slice none 0 0, .int .i64 t240, .int .i64 t241, .int .i64 t242] (fun k_ => k_ ≠ gb252) (fun _ => False) rfl (by first | (go_simp; done) | (go_simp; rfl)) ?aP (fun k_ hk_ => hk_.elim) ?aF ?aO ?aB ?aS ?aL ?_; (case aP => exact k40_mkM _ _ _ (⟨([] : List (S35)), (⟨t240, t241, t242⟩ : S31)⟩ : S40) (Kd.R_nil _ _ _ _ _)); (case aB => exact zb); (case aF => exact (fun k_ hk => Kd.freshB (g := gb252) (o := .cells #[.int .i64 t245, .int .i64 t246, .int .i64 t247, .int .i64 t248, .int .i64 t249, .int .i64 t250] 35 (0, 0)) (by (with_reducible repeat (first | refine zN ?_ _ | refine zO ?_ | refine zP ?_ _)); refine blk_put (cs := #[.int .i64 t245, .int .i64 t246, .int .i64 t247, .int .i64 t248, .int .i64 t249, .int .i64 0]) ?_ 5 _ rfl; (with_reducible repeat (first | refine zN ?_ _ | refine zO ?_ | refine zP ?_ _)); refine blk_put (cs := #[.int .i64 t245, .int .i64 t246, .int .i64 t247, .int .i64 t248, .int .i64 0, .int .i64 0]) ?_ 4 _ rfl; (with_reducible repeat (first | refine zN ?_ _ | refine zO ?_ | refine zP ?_ _)); refine blk_put (cs := #[.int .i64 t245, .int .i64 t246, .int .i64 t247, .int .i64 0, .int .i64 0, .int .i64 0]) ?_ 3 _ rfl; (with_reducible repeat (first | refine zN ?_ _ | refine zO ?_ | refine zP ?_ _)); refine blk_put (cs := #[.int .i64 t245, .int .i64 t246, .int .i64 0, .int .i64 0, .int .i64 0, .int .i64 0]) ?_ 2 _ rfl; (with_reducible repeat (first | refine zN ?_ _ | refine zO ?_ | refine zP ?_ _)); refine blk_put (cs := #[.int .i64 t245, .int .i64 0, .int .i64 0, .int .i64 0, .int .i64 0, .int .i64 0]) ?_ 1 _ rfl; (with_reducible repeat (first | refine zN ?_ _ | refine zO ?_ | refine zP ?_ _)); refine blk_put (cs := #[.int .i64 0, .int .i64 0, .int .i64 0, .int .i64 0, .int .i64 0, .int .i64 0]) ?_ 0 _ rfl; (with_reducible repeat (first | refine zN ?_ _ | refine zO ?_ | refine zP ?_ _)); exact BK252.out) k_ hk)); (case aO => exact (by (with_reducible repeat (first | apply zU | apply zV | apply zW)); exact Kd.S_mono (Kd.S_far (p := ⟨gb252, 5, none⟩) (Kd.S_far (p := ⟨gb252, 4, none⟩) (Kd.S_far (p := ⟨gb252, 3, none⟩) (Kd.S_far (p := ⟨gb252, 2, none⟩) (Kd.S_far (p := ⟨gb252, 1, none⟩) (Kd.S_far (p := ⟨gb252, 0, none⟩) (Kd.S_mono HO_240000.out (fun k_ hk => (⟨hk, hk.2⟩ : _ ∧ k_ ≠ gb252))) (fun _ hk => hk.2) (.int .i64 t245)) (fun _ hk => hk.2) (.int .i64 t246)) (fun _ hk => hk.2) (.int .i64 t247)) (fun _ hk => hk.2) (.int .i64 t248)) (fun _ hk => hk.2) (.int .i64 t249)) (fun _ hk => hk.2) (.int .i64 t250)) (fun k_ hk => ⟨hk.1.2, fun e_ => e_⟩))); (case aS => exact (zR zb)); (case aL => have := LMc36.out; omega); intro v254 w54 ho hb hg hat; (first | rw [← Ny253.out] at ho | (simp only [Int.reduceToNat] at ho; rw [← Ny253.out] at ho)); have n0_ := zM (blk_grown (g := gb237) (o := .cells #[.slice none 0 0] 24 (0, 0)) (zl NB237_252.out BK237.out) hg (Kd.S_ne HO_240000.out BK237.out (by decide))); have n1_ := zM (blk_grown (g := gb238) (o := .cells #[.slice none 0 0] 24 (0, 0)) (zl NB238_252.out BK238.out) hg (Kd.S_ne HO_240000.out BK238.out (by decide))); have n2_ := zM (blk_grown (g := gb239) (o := .cells #[u240000] 24 (0, 0)) (zl NB239_252.out BK239.out) hg (Kd.S_ne HO_240000.out BK239.out (by decide))); have n3_ := zM (blk_grown (g := gb244) (o := .cells #[.int .i64 t240, .int .i64 t241, .int .i64 t242] 31 (0, 0)) (zl NB244_252.out BK244.out) hg (Kd.S_ne HO_240000.out BK244.out (by decide))); have n4_ := zM (blk_grown (g := gb252) (o := .cells #[.int .i64 t245, .int .i64 t246, .int .i64 t247, .int .i64 t248, .int .i64 t249, .int .i64 t250] 35 (0, 0)) (by (with_reducible repeat (first | refine zN ?_ _ | refine zO ?_ | refine zP ?_ _)); refine blk_put (cs := #[.int .i64 t245, .int .i64 t246, .int .i64 t247, .int .i64 t248, .int .i64 t249, .int .i64 0]) ?_ 5 _ rfl; (with_reducible repeat (first | refine zN ?_ _ | refine zO ?_ | refine zP ?_ _)); refine blk_put (cs := #[.int .i64 t245, .int .i64 t246, .int .i64 t247, .int .i64 t248, .int .i64 0, .int .i64 0]) ?_ 4 _ rfl; (with_reducible repeat (first | refine zN ?_ _ | refine zO ?_ | refine zP ?_ _)); refine blk_put (cs := #[.int .i64 t245, .int .i64 t246, .int .i64 t247, .int .i64 0, .int .i64 0, .int .i64 0]) ?_ 3 _ rfl; (with_reducible repeat (first | refine zN ?_ _ | refine zO ?_ | refine zP ?_ _)); refine blk_put (cs := #[.int .i64 t245, .int .i64 t246, .int .i64 0, .int .i64 0, .int .i64 0, .int .i64 0]) ?_ 2 _ rfl; (with_reducible repeat (first | refine zN ?_ _ | refine zO ?_ | refine zP ?_ _)); refine blk_put (cs := #[.int .i64 t245, .int .i64 0, .int .i64 0, .int .i64 0, .int .i64 0, .int .i64 0]) ?_ 1 _ rfl; (with_reducible repeat (first | refine zN ?_ _ | refine zO ?_ | refine zP ?_ _)); refine blk_put (cs := #[.int .i64 0, .int .i64 0, .int .i64 0, .int .i64 0, .int .i64 0, .int .i64 0]) ?_ 0 _ rfl; (with_reducible repeat (first | refine zN ?_ _ | refine zO ?_ | refine zP ?_ _)); exact BK252.out) hg (Kd.S_ne HO_240000.out BK252.out (by decide))); have n5_ := zM (hb); have n6_ := zM (ho); clear BK237; clear BK238; clear BK239; clear BK244; clear BK252; clear HB; clear HO_240000; have BK237 := n0_; have BK238 := n1_; have BK239 := n2_; have BK244 := n3_; have BK252 := n4_; have HB := n5_; have HO255 := n6_; clear n0_ n1_ n2_ n3_ n4_ n5_ n6_; clear ho hb hg hat; obtain ⟨Ao55, co55, eo55⟩ := Kd.S_slice HO255.out; subst eo55; have hcz56_0 := (z5 BK239.out 0).trans rfl; have hfz56_0 := z6 BK239.out 0))
           go_roundg kj21
           case measure => have := HK1.out; have := HJ21.out; omega
           case rel => exact ⟨(wrap64 (x8_1 + 1)), (wrap64 (x7_1 + 1)), (wrap64 (x8_1 + 1)), (y253), (.slice Ao55 y253.length co55), zs, zs, zs, H', ⟨by have := HK1.out; have := HJ21.out; omega⟩, ⟨by (with_reducible repeat (first | apply zU | apply zV | apply zW)); exact Kd.S_mono (Kd.S_far (p := ⟨gb239, 0, none⟩) (Kd.S_types HO255.out BK239.out (by decide)) (fun _ hk => hk.2) (.slice Ao55 y253.length co55)) (fun _ hk => trivial)⟩, ⟨zl NB237_239.out BK237.out⟩, ⟨zl NB238_239.out BK238.out⟩, ⟨by (with_reducible repeat (first | refine zN ?_ _ | refine zO ?_ | refine zP ?_ _)); refine blk_put (cs := #[u240000]) ?_ 0 _ rfl; (with_reducible repeat (first | refine zN ?_ _ | refine zO ?_ | refine zP ?_ _)); exact BK239.out⟩, ⟨zb⟩⟩
          rw [if_neg c36] at H
          exact absurd H (by simp)
         replace c35 := Bool.eq_false_iff.mpr c35
         subst c35
         have H1 : (if t251 = true then ((spec_FormatStmt.f kj21 t245 t246 t247 t248 t249 t250).bind fun t256 => (spec_ParseProgram.j2 kj21 a0 (wrap64 (x8_1 + 1)) (wrap64 (x7_1 + 1)) x8_1 (t256.toList == (a0.extract (x6_1 : Int).toNat (x8_1 : Int).toNat).toList) x240000_1 t245 t246 t247 t248 t249 t250)) else (spec_ParseProgram.j2 kj21 a0 (wrap64 (x8_1 + 1)) (wrap64 (x7_1 + 1)) x8_1 false x240000_1 t245 t246 t247 t248 t249 t250)) = some (r1, r2) := by rw [if_neg (show ¬ (false = true) by decide)] at H; exact H
         clear H
         have H := H1
         clear H1
         have HC57 := zM H
         clear H
         go_upto_region 19 with (first | ((with_reducible refine gate_callee (f := 9) rfl ?_); refine goesL_ (some 58) rfl rfl Tryz.func9 (by kernel_rfl) rfl #[.string (a0.extract (x6_1 : Int).toNat (x8_1 : Int).toNat)] rfl zg ?_; (with_reducible refine (spec_l06Head.calls kj21 (a0.extract (x6_1 : Int).toNat (x8_1 : Int).toNat) t240 t241 t242 false _ A33.out).mono ?_); rintro e w58 ⟨rfl, hb⟩; refine ⟨_, rfl, ?_⟩; have n0_ := zM (Kd.S_below (by (with_reducible repeat (first | apply zU | apply zV | apply zW)); exact HO_240000.out) hb); have n1_ := zM (z7 (g := gb237) (o := .cells #[.slice none 0 0] 24 (0, 0)) zk hb); have n2_ := zM (z7 (g := gb238) (o := .cells #[.slice none 0 0] 24 (0, 0)) zk hb); have n3_ := zM (z7 (g := gb239) (o := .cells #[u240000] 24 (0, 0)) zk hb); have n4_ := zM (zQ zb hb); clear HO_240000; clear BK237; clear BK238; clear BK239; clear HB; have HO_240000 := n0_; have BK237 := n1_; have BK238 := n2_; have BK239 := n3_; have HB := n4_; clear n0_ n1_ n2_ n3_ n4_; (try clear hb); (try clear hk)) | ((with_reducible refine gate_dst (N := 10) rfl ?_); (try (refine gate_guard (by rfl) ?_; dsimp only)); refine box_event ?hg (N := 10) ?hd (cs := #[.int .i64 0, .int .i64 0, .int .i64 0]) (t := 31) ?hr ?_; (case hd => rfl); (case hg => rfl); (case hr => first | (go_simp; done) | (go_simp; rfl)); intro gb244 hg w59 hbox hb; have n0_ := zM (Kd.S_below (by (with_reducible repeat (first | apply zU | apply zV | apply zW)); exact HO_240000.out) hb); have n1_ := zM (z7 (g := gb237) (o := .cells #[.slice none 0 0] 24 (0, 0)) zk hb); have n2_ := zM (z7 (g := gb238) (o := .cells #[.slice none 0 0] 24 (0, 0)) zk hb); have n3_ := zM (z7 (g := gb239) (o := .cells #[u240000] 24 (0, 0)) zk hb); have n4_ := zM (zQ zb hb); have n5_ := zM (hbox); have n6_ := zM ((by rw [hg]; exact (zR zb) : w.heap.size ≤ gb244)); have n7_ := zM ((by rw [hg]; exact (zR zb) : w.heap.size ≤ gb244)); have n8_ := zM ((by rw [hg]; exact Nat.ne_of_lt (blk_lt (g := gb237) (o := .cells #[.slice none 0 0] 24 (0, 0)) zk) : gb237 ≠ gb244)); have n9_ := zM ((by rw [hg]; exact Nat.ne_of_gt (blk_lt (g := gb237) (o := .cells #[.slice none 0 0] 24 (0, 0)) zk) : gb244 ≠ gb237)); have n10_ := zM ((by rw [hg]; exact Nat.ne_of_lt (blk_lt (g := gb238) (o := .cells #[.slice none 0 0] 24 (0, 0)) zk) : gb238 ≠ gb244)); have n11_ := zM ((by rw [hg]; exact Nat.ne_of_gt (blk_lt (g := gb238) (o := .cells #[.slice none 0 0] 24 (0, 0)) zk) : gb244 ≠ gb238)); have n12_ := zM ((by rw [hg]; exact Nat.ne_of_lt (blk_lt (g := gb239) (o := .cells #[u240000] 24 (0, 0)) zk) : gb239 ≠ gb244)); have n13_ := zM ((by rw [hg]; exact Nat.ne_of_gt (blk_lt (g := gb239) (o := .cells #[u240000] 24 (0, 0)) zk) : gb244 ≠ gb239)); clear HO_240000; clear BK237; clear BK238; clear BK239; clear HB; have HO_240000 := n0_; have BK237 := n1_; have BK238 := n2_; have BK239 := n3_; have HB := n4_; have BK244 := n5_; have GW244 := n6_; have GE244 := n7_; have NB237_244 := n8_; have NB244_237 := n9_; have NB238_244 := n10_; have NB244_238 := n11_; have NB239_244 := n12_; have NB244_239 := n13_; clear n0_ n1_ n2_ n3_ n4_ n5_ n6_ n7_ n8_ n9_ n10_ n11_ n12_ n13_; clear hb hbox hg; have hnb60 := NB244_237.out; have hnc60 := NB237_244.out; have hnb61 := NB244_238.out; have hnc61 := NB238_244.out; have hnb62 := NB244_239.out; have hnc62 := NB239_244.out; have hcz63_0 := (z5 BK244.out 0).trans rfl; have hcz63_1 := (z5 BK244.out 1).trans rfl; have hcz63_2 := (z5 BK244.out 2).trans rfl; have hfz63_0 := z6 BK244.out 0; have hfz63_1 := z6 BK244.out 1; have hfz63_2 := z6 BK244.out 2) | ((with_reducible refine gate_callee (f := 10) rfl ?_); refine goesL_ (some 63) rfl rfl Tryz.func10 (by kernel_rfl) rfl #[.string (a0.extract (x6_1 : Int).toNat (x8_1 : Int).toNat)] rfl zg ?_; (with_reducible refine (spec_ParseStmt.calls kj21 (a0.extract (x6_1 : Int).toNat (x8_1 : Int).toNat) t245 t246 t247 t248 t249 t250 t251 _ A34.out).mono ?_); rintro e w64 ⟨rfl, hb⟩; refine ⟨_, rfl, ?_⟩; have n0_ := zM (Kd.S_below (by (with_reducible repeat (first | apply zU | apply zV | apply zW)); exact (Kd.S_mono (Kd.S_far (p := ⟨gb244, 2, none⟩) (Kd.S_far (p := ⟨gb244, 1, none⟩) (Kd.S_far (p := ⟨gb244, 0, none⟩) (Kd.S_types HO_240000.out BK244.out (by decide)) (fun _ hk => hk.2) (.int .i64 t240)) (fun _ hk => hk.2) (.int .i64 t241)) (fun _ hk => hk.2) (.int .i64 t242)) (fun _ h_ => h_.1))) hb); have n1_ := zM (z7 (g := gb237) (o := .cells #[.slice none 0 0] 24 (0, 0)) (zl NB237_244.out BK237.out) hb); have n2_ := zM (z7 (g := gb238) (o := .cells #[.slice none 0 0] 24 (0, 0)) (zl NB238_244.out BK238.out) hb); have n3_ := zM (z7 (g := gb239) (o := .cells #[u240000] 24 (0, 0)) (zl NB239_244.out BK239.out) hb); have n4_ := zM (z7 (g := gb244) (o := .cells #[.int .i64 t240, .int .i64 t241, .int .i64 t242] 31 (0, 0)) (by (with_reducible repeat (first | refine zN ?_ _ | refine zO ?_ | refine zP ?_ _)); refine blk_put (cs := #[.int .i64 t240, .int .i64 t241, .int .i64 0]) ?_ 2 _ rfl; (with_reducible repeat (first | refine zN ?_ _ | refine zO ?_ | refine zP ?_ _)); refine blk_put (cs := #[.int .i64 t240, .int .i64 0, .int .i64 0]) ?_ 1 _ rfl; (with_reducible repeat (first | refine zN ?_ _ | refine zO ?_ | refine zP ?_ _)); refine blk_put (cs := #[.int .i64 0, .int .i64 0, .int .i64 0]) ?_ 0 _ rfl; (with_reducible repeat (first | refine zN ?_ _ | refine zO ?_ | refine zP ?_ _)); exact BK244.out) hb); have n5_ := zM (zQ zb hb); clear HO_240000; clear BK237; clear BK238; clear BK239; clear BK244; clear HB; have HO_240000 := n0_; have BK237 := n1_; have BK238 := n2_; have BK239 := n3_; have BK244 := n4_; have HB := n5_; clear n0_ n1_ n2_ n3_ n4_ n5_; (try clear hb); (try clear hk)) | ((with_reducible refine gate_dst (N := 12) rfl ?_); (try (refine gate_guard (by rfl) ?_; dsimp only)); refine box_event ?hg (N := 12) ?hd (cs := #[.int .i64 0, .int .i64 0, .int .i64 0, .int .i64 0, .int .i64 0, .int .i64 0]) (t := 35) ?hr ?_; (case hd => rfl); (case hg => rfl); (case hr => first | (go_simp; done) | (go_simp; rfl)); intro gb252 hg w65 hbox hb; have n0_ := zM (Kd.S_below (Kd.S_elderB (by (with_reducible repeat (first | apply zU | apply zV | apply zW)); exact HO_240000.out) gb252 (Nat.le_of_eq hg.symm)) hb); have n1_ := zM (z7 (g := gb237) (o := .cells #[.slice none 0 0] 24 (0, 0)) zk hb); have n2_ := zM (z7 (g := gb238) (o := .cells #[.slice none 0 0] 24 (0, 0)) zk hb); have n3_ := zM (z7 (g := gb239) (o := .cells #[u240000] 24 (0, 0)) zk hb); have n4_ := zM (z7 (g := gb244) (o := .cells #[.int .i64 t240, .int .i64 t241, .int .i64 t242] 31 (0, 0)) zk hb); have n5_ := zM (zQ zb hb); have n6_ := zM (hbox); have n7_ := zM ((by rw [hg]; exact (zR zb) : w.heap.size ≤ gb252)); have n8_ := zM ((by rw [hg]; exact (zR zb) : w.heap.size ≤ gb252)); have n9_ := zM ((by rw [hg]; exact Nat.ne_of_lt (blk_lt (g := gb237) (o := .cells #[.slice none 0 0] 24 (0, 0)) zk) : gb237 ≠ gb252)); have n10_ := zM ((by rw [hg]; exact Nat.ne_of_gt (blk_lt (g := gb237) (o := .cells #[.slice none 0 0] 24 (0, 0)) zk) : gb252 ≠ gb237)); have n11_ := zM ((by rw [hg]; exact Nat.ne_of_lt (blk_lt (g := gb238) (o := .cells #[.slice none 0 0] 24 (0, 0)) zk) : gb238 ≠ gb252)); have n12_ := zM ((by rw [hg]; exact Nat.ne_of_gt (blk_lt (g := gb238) (o := .cells #[.slice none 0 0] 24 (0, 0)) zk) : gb252 ≠ gb238)); have n13_ := zM ((by rw [hg]; exact Nat.ne_of_lt (blk_lt (g := gb239) (o := .cells #[u240000] 24 (0, 0)) zk) : gb239 ≠ gb252)); have n14_ := zM ((by rw [hg]; exact Nat.ne_of_gt (blk_lt (g := gb239) (o := .cells #[u240000] 24 (0, 0)) zk) : gb252 ≠ gb239)); have n15_ := zM ((by rw [hg]; exact Nat.ne_of_lt (blk_lt (g := gb244) (o := .cells #[.int .i64 t240, .int .i64 t241, .int .i64 t242] 31 (0, 0)) zk) : gb244 ≠ gb252)); have n16_ := zM ((by rw [hg]; exact Nat.ne_of_gt (blk_lt (g := gb244) (o := .cells #[.int .i64 t240, .int .i64 t241, .int .i64 t242] 31 (0, 0)) zk) : gb252 ≠ gb244)); clear HO_240000; clear BK237; clear BK238; clear BK239; clear BK244; clear HB; have HO_240000 := n0_; have BK237 := n1_; have BK238 := n2_; have BK239 := n3_; have BK244 := n4_; have HB := n5_; have BK252 := n6_; have GW252 := n7_; have GE252 := n8_; have NB237_252 := n9_; have NB252_237 := n10_; have NB238_252 := n11_; have NB252_238 := n12_; have NB239_252 := n13_; have NB252_239 := n14_; have NB244_252 := n15_; have NB252_244 := n16_; clear n0_ n1_ n2_ n3_ n4_ n5_ n6_ n7_ n8_ n9_ n10_ n11_ n12_ n13_ n14_ n15_ n16_; clear hb hbox hg; have hnb66 := NB252_237.out; have hnc66 := NB237_252.out; have hnb67 := NB252_238.out; have hnc67 := NB238_252.out; have hnb68 := NB252_239.out; have hnc68 := NB239_252.out; have hnb69 := NB252_244.out; have hnc69 := NB244_252.out; have hcz70_0 := (z5 BK252.out 0).trans rfl; have hcz70_1 := (z5 BK252.out 1).trans rfl; have hcz70_2 := (z5 BK252.out 2).trans rfl; have hcz70_3 := (z5 BK252.out 3).trans rfl; have hcz70_4 := (z5 BK252.out 4).trans rfl; have hcz70_5 := (z5 BK252.out 5).trans rfl; have hfz70_0 := z6 BK252.out 0; have hfz70_1 := z6 BK252.out 1; have hfz70_2 := z6 BK252.out 2; have hfz70_3 := z6 BK252.out 3; have hfz70_4 := z6 BK252.out 4; have hfz70_5 := z6 BK252.out 5))
         (try simp only [Act.put, List.setIfInBounds_toArray, List.set_cons_zero, List.set_cons_succ])
         go_cut [77] (fun v77 wc => ∃ (kq : Nat) (x77_56 : Bool), v77 = .bool x77_56 ∧ Aside0 (spec_ParseProgram.j2 kq a0 (wrap64 (x8_1 + 1)) (wrap64 (x7_1 + 1)) x8_1 x77_56 x240000_1 t245 t246 t247 t248 t249 t250 = some (r1, r2)) ∧ Aside0 (kq ≤ kj21) ∧ Aside0 (Kd.S k40 40 wc w.heap.size (fun k_ => k_ ≠ gb252) u240000 x240000_1) ∧ Aside0 (wc.heap[gb237]? = some (.cells #[(.slice none 0 0)] 24 (0, 0))) ∧ Aside0 (wc.heap[gb238]? = some (.cells #[(.slice none 0 0)] 24 (0, 0))) ∧ Aside0 (wc.heap[gb239]? = some (.cells #[u240000] 24 (0, 0))) ∧ Aside0 (wc.heap[gb244]? = some (.cells #[.int .i64 t240, .int .i64 t241, .int .i64 t242] 31 (0, 0))) ∧ Aside0 (wc.heap[gb252]? = some (.cells #[.int .i64 t245, .int .i64 t246, .int .i64 t247, .int .i64 t248, .int .i64 t249, .int .i64 t250] 35 (0, 0))) ∧ Aside0 (Below w.heap.size w wc))
         case first =>
          have H := HC57.out
          clear HC57
          by_cases c71 : t251 = true
          ·subst c71
           have H1 : ((spec_FormatStmt.f kj21 t245 t246 t247 t248 t249 t250).bind fun t256 => (spec_ParseProgram.j2 kj21 a0 (wrap64 (x8_1 + 1)) (wrap64 (x7_1 + 1)) x8_1 (t256.toList == (a0.extract (x6_1 : Int).toNat (x8_1 : Int).toNat).toList) x240000_1 t245 t246 t247 t248 t249 t250)) = some (r1, r2) := by rw [if_pos rfl] at H; exact H
           clear H
           have H := H1
           clear H1
           replace H := Option.bind_eq_some_iff.mp H
           obtain ⟨t256, A720, H⟩ := H
           replace H : (spec_ParseProgram.j2 kj21 a0 (wrap64 (x8_1 + 1)) (wrap64 (x7_1 + 1)) x8_1 (t256.toList == (a0.extract (x6_1 : Int).toNat (x8_1 : Int).toNat).toList) x240000_1 t245 t246 t247 t248 t249 t250) = some (r1, r2) := H
           have A72 := zM A720
           clear A720
           have H' := zM H
           clear H
           have hnb73 := NB252_237.out
           have hnc73 := NB237_252.out
           have hnb74 := NB252_238.out
           have hnc74 := NB238_252.out
           have hnb75 := NB252_239.out
           have hnc75 := NB239_252.out
           have hnb76 := NB252_244.out
           have hnc76 := NB244_252.out
           have hcz77_0 := (z5 BK252.out 0).trans rfl
           have hcz77_1 := (z5 BK252.out 1).trans rfl
           have hcz77_2 := (z5 BK252.out 2).trans rfl
           have hcz77_3 := (z5 BK252.out 3).trans rfl
           have hcz77_4 := (z5 BK252.out 4).trans rfl
           have hcz77_5 := (z5 BK252.out 5).trans rfl
           have hfz77_0 := z6 BK252.out 0
           have hfz77_1 := z6 BK252.out 1
           have hfz77_2 := z6 BK252.out 2
           have hfz77_3 := z6 BK252.out 3
           have hfz77_4 := z6 BK252.out 4
           have hfz77_5 := z6 BK252.out 5
           go_wp2_with (first | (go_at_call 11; (with_reducible refine (spec_FormatStmt.calls kj21 t245 t246 t247 t248 t249 t250 t256 _ A72.out).mono ?_); rintro e w78 ⟨rfl, hb⟩; have n0_ := zM (Kd.S_below (by (with_reducible repeat (first | apply zU | apply zV | apply zW)); exact (Kd.S_mono (Kd.S_far (p := ⟨gb252, 5, none⟩) (Kd.S_far (p := ⟨gb252, 4, none⟩) (Kd.S_far (p := ⟨gb252, 3, none⟩) (Kd.S_far (p := ⟨gb252, 2, none⟩) (Kd.S_far (p := ⟨gb252, 1, none⟩) (Kd.S_far (p := ⟨gb252, 0, none⟩) (Kd.S_mono HO_240000.out (fun k_ hk => (⟨hk, hk.2⟩ : _ ∧ k_ ≠ gb252))) (fun _ hk => hk.2) (.int .i64 t245)) (fun _ hk => hk.2) (.int .i64 t246)) (fun _ hk => hk.2) (.int .i64 t247)) (fun _ hk => hk.2) (.int .i64 t248)) (fun _ hk => hk.2) (.int .i64 t249)) (fun _ hk => hk.2) (.int .i64 t250)) (fun _ h_ => h_.1))) hb); have n1_ := zM (z7 (g := gb237) (o := .cells #[.slice none 0 0] 24 (0, 0)) (zl NB237_252.out BK237.out) hb); have n2_ := zM (z7 (g := gb238) (o := .cells #[.slice none 0 0] 24 (0, 0)) (zl NB238_252.out BK238.out) hb); have n3_ := zM (z7 (g := gb239) (o := .cells #[u240000] 24 (0, 0)) (zl NB239_252.out BK239.out) hb); have n4_ := zM (z7 (g := gb244) (o := .cells #[.int .i64 t240, .int .i64 t241, .int .i64 t242] 31 (0, 0)) (zl NB244_252.out BK244.out) hb); have n5_ := zM (z7 (g := gb252) (o := .cells #[.int .i64 t245, .int .i64 t246, .int .i64 t247, .int .i64 t248, .int .i64 t249, .int .i64 t250] 35 (0, 0)) (by (with_reducible repeat (first | refine zN ?_ _ | refine zO ?_ | refine zP ?_ _)); refine blk_put (cs := #[.int .i64 t245, .int .i64 t246, .int .i64 t247, .int .i64 t248, .int .i64 t249, .int .i64 0]) ?_ 5 _ rfl; (with_reducible repeat (first | refine zN ?_ _ | refine zO ?_ | refine zP ?_ _)); refine blk_put (cs := #[.int .i64 t245, .int .i64 t246, .int .i64 t247, .int .i64 t248, .int .i64 0, .int .i64 0]) ?_ 4 _ rfl; (with_reducible repeat (first | refine zN ?_ _ | refine zO ?_ | refine zP ?_ _)); refine blk_put (cs := #[.int .i64 t245, .int .i64 t246, .int .i64 t247, .int .i64 0, .int .i64 0, .int .i64 0]) ?_ 3 _ rfl; (with_reducible repeat (first | refine zN ?_ _ | refine zO ?_ | refine zP ?_ _)); refine blk_put (cs := #[.int .i64 t245, .int .i64 t246, .int .i64 0, .int .i64 0, .int .i64 0, .int .i64 0]) ?_ 2 _ rfl; (with_reducible repeat (first | refine zN ?_ _ | refine zO ?_ | refine zP ?_ _)); refine blk_put (cs := #[.int .i64 t245, .int .i64 0, .int .i64 0, .int .i64 0, .int .i64 0, .int .i64 0]) ?_ 1 _ rfl; (with_reducible repeat (first | refine zN ?_ _ | refine zO ?_ | refine zP ?_ _)); refine blk_put (cs := #[.int .i64 0, .int .i64 0, .int .i64 0, .int .i64 0, .int .i64 0, .int .i64 0]) ?_ 0 _ rfl; (with_reducible repeat (first | refine zN ?_ _ | refine zO ?_ | refine zP ?_ _)); exact BK252.out) hb); have n6_ := zM (zQ zb hb); clear HO_240000; clear BK237; clear BK238; clear BK239; clear BK244; clear BK252; clear HB; have HO_240000 := n0_; have BK237 := n1_; have BK238 := n2_; have BK239 := n3_; have BK244 := n4_; have BK252 := n5_; have HB := n6_; clear n0_ n1_ n2_ n3_ n4_ n5_ n6_; (try clear hb); (try clear hk)))
           go_meet
           case rel => exact ⟨_, ((t256.toList == (a0.extract (x6_1 : Int).toNat (x8_1 : Int).toNat).toList)), zs, H', ⟨by have := HK1.out; have := HJ21.out; first | omega | exact Nat.le_refl _⟩, ⟨by (with_reducible repeat (first | apply zU | apply zV | apply zW)); exact Kd.S_mono HO_240000.out (fun _ hk => hk.2)⟩, ⟨zk⟩, ⟨zk⟩, ⟨zk⟩, ⟨zk⟩, ⟨zk⟩, ⟨zb⟩⟩
          replace c71 := Bool.eq_false_iff.mpr c71
          subst c71
          have H1 : (spec_ParseProgram.j2 kj21 a0 (wrap64 (x8_1 + 1)) (wrap64 (x7_1 + 1)) x8_1 false x240000_1 t245 t246 t247 t248 t249 t250) = some (r1, r2) := by rw [if_neg (show ¬ (false = true) by decide)] at H; exact H
          clear H
          have H := H1
          clear H1
          have H' := zM H
          clear H
          go_wp2
          go_meet
          case rel => exact ⟨_, (false), zs, H', ⟨by have := HK1.out; have := HJ21.out; first | omega | exact Nat.le_refl _⟩, ⟨by (with_reducible repeat (first | apply zU | apply zV | apply zW)); exact Kd.S_mono (Kd.S_far (p := ⟨gb252, 5, none⟩) (Kd.S_far (p := ⟨gb252, 4, none⟩) (Kd.S_far (p := ⟨gb252, 3, none⟩) (Kd.S_far (p := ⟨gb252, 2, none⟩) (Kd.S_far (p := ⟨gb252, 1, none⟩) (Kd.S_far (p := ⟨gb252, 0, none⟩) (Kd.S_mono HO_240000.out (fun k_ hk => (⟨hk, hk.2⟩ : _ ∧ k_ ≠ gb252))) (fun _ hk => hk.2) (.int .i64 t245)) (fun _ hk => hk.2) (.int .i64 t246)) (fun _ hk => hk.2) (.int .i64 t247)) (fun _ hk => hk.2) (.int .i64 t248)) (fun _ hk => hk.2) (.int .i64 t249)) (fun _ hk => hk.2) (.int .i64 t250)) (fun _ hk => hk.1.2)⟩, ⟨zl NB237_252.out BK237.out⟩, ⟨zl NB238_252.out BK238.out⟩, ⟨zl NB239_252.out BK239.out⟩, ⟨zl NB244_252.out BK244.out⟩, ⟨by (with_reducible repeat (first | refine zN ?_ _ | refine zO ?_ | refine zP ?_ _)); refine blk_put (cs := #[.int .i64 t245, .int .i64 t246, .int .i64 t247, .int .i64 t248, .int .i64 t249, .int .i64 0]) ?_ 5 _ rfl; (with_reducible repeat (first | refine zN ?_ _ | refine zO ?_ | refine zP ?_ _)); refine blk_put (cs := #[.int .i64 t245, .int .i64 t246, .int .i64 t247, .int .i64 t248, .int .i64 0, .int .i64 0]) ?_ 4 _ rfl; (with_reducible repeat (first | refine zN ?_ _ | refine zO ?_ | refine zP ?_ _)); refine blk_put (cs := #[.int .i64 t245, .int .i64 t246, .int .i64 t247, .int .i64 0, .int .i64 0, .int .i64 0]) ?_ 3 _ rfl; (with_reducible repeat (first | refine zN ?_ _ | refine zO ?_ | refine zP ?_ _)); refine blk_put (cs := #[.int .i64 t245, .int .i64 t246, .int .i64 0, .int .i64 0, .int .i64 0, .int .i64 0]) ?_ 2 _ rfl; (with_reducible repeat (first | refine zN ?_ _ | refine zO ?_ | refine zP ?_ _)); refine blk_put (cs := #[.int .i64 t245, .int .i64 0, .int .i64 0, .int .i64 0, .int .i64 0, .int .i64 0]) ?_ 1 _ rfl; (with_reducible repeat (first | refine zN ?_ _ | refine zO ?_ | refine zP ?_ _)); refine blk_put (cs := #[.int .i64 0, .int .i64 0, .int .i64 0, .int .i64 0, .int .i64 0, .int .i64 0]) ?_ 0 _ rfl; (with_reducible repeat (first | refine zN ?_ _ | refine zO ?_ | refine zP ?_ _)); exact BK252.out⟩, ⟨zb⟩⟩
         case rest =>
          clear HC57
          try clear c1
          try clear c2
          try clear c2b0
          try clear c2b1
          try clear p2
          try clear q2
          try clear hx2
          try clear c3
          try clear c4
          try clear c5
          try clear c6
          try clear p6
          try clear c7
          try clear c8
          try clear c9
          try clear c10
          try clear c15
          try clear c18
          try clear c19
          try clear c21
          try clear c21b0
          try clear c23
          try clear c23b0
          try clear c24
          try clear c24b0
          try clear p25
          try clear q25
          try clear hx25
          try clear c26
          try clear c26b0
          try clear c26b1
          try clear c27
          try clear c27b0
          try clear c27b1
          try clear c28
          try clear c28b0
          try clear c28b1
          try clear c29
          try clear c30
          try clear c30b0
          try clear c30b1
          try clear c31
          try clear c31b0
          try clear c31b1
          try clear c32
          try clear c32b0
          try clear c32b1
          try clear c35
          try clear c36
          try clear c39
          try clear c40
          try clear c41
          try clear c45
          try clear c46
          try clear c47
          try clear c48
          try clear c50
          try clear c51
          try clear c60
          try clear c61
          try clear c62
          try clear p64
          try clear c66
          try clear c67
          try clear c68
          try clear c69
          try clear c71
          try clear c73
          try clear c74
          try clear c75
          try clear c76
          try clear hcz10_0
          try clear hcz11_0
          try clear hcz12_0
          try clear hcz16_0
          try clear hcz20_0
          try clear hcz42_0
          try clear hcz42_1
          try clear hcz42_2
          try clear hcz49_0
          try clear hcz49_1
          try clear hcz49_2
          try clear hcz49_3
          try clear hcz49_4
          try clear hcz49_5
          try clear hcz52_0
          try clear hcz53_0
          try clear hcz53_1
          try clear hcz53_2
          try clear hcz56_0
          try clear hcz63_0
          try clear hcz63_1
          try clear hcz63_2
          try clear hcz6_0
          try clear hcz70_0
          try clear hcz70_1
          try clear hcz70_2
          try clear hcz70_3
          try clear hcz70_4
          try clear hcz70_5
          try clear hcz77_0
          try clear hcz77_1
          try clear hcz77_2
          try clear hcz77_3
          try clear hcz77_4
          try clear hcz77_5
          try clear hfz10_0
          try clear hfz11_0
          try clear hfz12_0
          try clear hfz16_0
          try clear hfz20_0
          try clear hfz42_0
          try clear hfz42_1
          try clear hfz42_2
          try clear hfz49_0
          try clear hfz49_1
          try clear hfz49_2
          try clear hfz49_3
          try clear hfz49_4
          try clear hfz49_5
          try clear hfz52_0
          try clear hfz53_0
          try clear hfz53_1
          try clear hfz53_2
          try clear hfz56_0
          try clear hfz63_0
          try clear hfz63_1
          try clear hfz63_2
          try clear hfz6_0
          try clear hfz70_0
          try clear hfz70_1
          try clear hfz70_2
          try clear hfz70_3
          try clear hfz70_4
          try clear hfz70_5
          try clear hfz77_0
          try clear hfz77_1
          try clear hfz77_2
          try clear hfz77_3
          try clear hfz77_4
          try clear hfz77_5
          try clear p2
          try clear p25
          try clear q2
          try clear q25
          obtain ⟨kq, x77_56, rfl, HA, HJ56, HO_240000, BK237, BK238, BK239, BK244, BK252, HB⟩ := hcut
          cases kq with
          | zero => exact absurd HA.out (by simp [spec_ParseProgram.j2])
          | succ kj56 =>
           have H := HA.out
           clear HA
           simp only [spec_ParseProgram.j2] at H
           by_cases c79 : x77_56 = true
           ·subst c79
            have H1 : (if (x240000_1.length : Int) > 0 then (if 0 ≤ (wrap64 ((x240000_1.length : Int) - 1)) then (if (wrap64 ((x240000_1.length : Int) - 1)) < (x240000_1.length : Int) then (if ((rd_T40 x240000_1 (wrap64 ((x240000_1.length : Int) - 1))).f0).length < 2932031007402 then (spec_ParseProgram.l0 kj56 a0 (wrap64 (x8_1 + 1)) (wrap64 (x7_1 + 1)) (wrap64 (x8_1 + 1)) (x240000_1.set ((wrap64 ((x240000_1.length : Int) - 1)) : Int).toNat (⟨(((rd_T40 x240000_1 (wrap64 ((x240000_1.length : Int) - 1))).f0) ++ [(⟨t245, t246, t247, (⟨t248, t249, t250⟩ : S31)⟩ : S35)]), (⟨(rd_T40 x240000_1 (wrap64 ((x240000_1.length : Int) - 1))).f1.f0, (rd_T40 x240000_1 (wrap64 ((x240000_1.length : Int) - 1))).f1.f1, (rd_T40 x240000_1 (wrap64 ((x240000_1.length : Int) - 1))).f1.f2⟩ : S31)⟩ : S40))) else (none)) else (none)) else (none)) else (spec_ParseProgram.l0 kj56 a0 (wrap64 (x8_1 + 1)) (wrap64 (x7_1 + 1)) (wrap64 (x8_1 + 1)) x240000_1)) = some (r1, r2) := by rw [if_pos rfl] at H; exact H
            clear H
            have H := H1
            clear H1
            by_cases c80 : (x240000_1.length : Int) > 0
            ·rw [if_pos c80] at H
             have c80b0 : decide (0 < (x240000_1.length : Int)) = true := decide_eq_true c80
             have c80b1 : decide (0 < x240000_1.length) = true := decide_eq_true (by omega)
             clear c80
             obtain ⟨ji81, hji81⟩ : ∃ j_ : Int, (wrap64 ((x240000_1.length : Int) - 1)) = j_ := ⟨_, rfl⟩
             replace H : (if 0 ≤ (ji81) then (if (ji81) < (x240000_1.length : Int) then (if ((rd_T40 x240000_1 (ji81)).f0).length < 2932031007402 then (spec_ParseProgram.l0 kj56 a0 (wrap64 (x8_1 + 1)) (wrap64 (x7_1 + 1)) (wrap64 (x8_1 + 1)) (x240000_1.set ((ji81) : Int).toNat (⟨(((rd_T40 x240000_1 (ji81)).f0) ++ [(⟨t245, t246, t247, (⟨t248, t249, t250⟩ : S31)⟩ : S35)]), (⟨(rd_T40 x240000_1 (ji81)).f1.f0, (rd_T40 x240000_1 (ji81)).f1.f1, (rd_T40 x240000_1 (ji81)).f1.f2⟩ : S31)⟩ : S40))) else (none)) else (none)) else (none)) = some (r1, r2) := by first | (rw [hji81] at H; exact H) | (simp only [hji81] at H ⊢; exact H)
             have hji81w : (IntKind.i64.wrap ((x240000_1.length : Int) - 1)) = ji81 := (i64_w _).trans hji81
             by_cases c82 : 0 ≤ (ji81)
             ·rw [if_pos c82] at H
              have c82b0 : decide (0 ≤ (ji81)) = true := decide_eq_true c82
              clear c82
              by_cases c83 : (ji81) < (x240000_1.length : Int)
              ·rw [if_pos c83] at H
               have c83b0 : decide ((ji81) < (x240000_1.length : Int)) = true := decide_eq_true c83
               clear c83
               by_cases c84 : ((rd_T40 x240000_1 (ji81)).f0).length < 2932031007402
               ·rw [if_pos c84] at H
                have LMc84 := zM c84
                clear c84
                obtain ⟨y258, hyq⟩ : ∃ y_ : List (S35), y_ = (((rd_T40 x240000_1 (ji81)).f0) ++ [(⟨t245, t246, t247, (⟨t248, t249, t250⟩ : S31)⟩ : S35)]) := ⟨_, rfl⟩
                replace H : (spec_ParseProgram.l0 kj56 a0 (wrap64 (x8_1 + 1)) (wrap64 (x7_1 + 1)) (wrap64 (x8_1 + 1)) (x240000_1.set ((ji81) : Int).toNat (⟨y258, (⟨(rd_T40 x240000_1 (ji81)).f1.f0, (rd_T40 x240000_1 (ji81)).f1.f1, (rd_T40 x240000_1 (ji81)).f1.f2⟩ : S31)⟩ : S40))) = some (r1, r2) := zh
                have Ny258 := zM hyq
                clear hyq
                obtain ⟨y261, hyq⟩ : ∃ y_ : List (S40), y_ = (x240000_1.set ((ji81) : Int).toNat (⟨y258, (⟨(rd_T40 x240000_1 (ji81)).f1.f0, (rd_T40 x240000_1 (ji81)).f1.f1, (rd_T40 x240000_1 (ji81)).f1.f2⟩ : S31)⟩ : S40)) := ⟨_, rfl⟩
                replace H : (spec_ParseProgram.l0 kj56 a0 (wrap64 (x8_1 + 1)) (wrap64 (x7_1 + 1)) (wrap64 (x8_1 + 1)) y261) = some (r1, r2) := zh
                have Ny261 := zM hyq
                clear hyq
                have H' := zM H
                clear H
                have hnb86 := NB239_237.out
                have hnc86 := NB237_239.out
                have hnb87 := NB239_238.out
                have hnc87 := NB238_239.out
                have hnb88 := NB239_244.out
                have hnc88 := NB244_239.out
                have hnb89 := NB239_252.out
                have hnc89 := NB252_239.out
                have hcz90_0 := (z5 BK239.out 0).trans rfl
                have hfz90_0 := z6 BK239.out 0
                obtain ⟨Ao91, co91, eo91⟩ := Kd.S_slice HO_240000.out
                subst eo91
                try go_wp2
                have n0_ := zM (zW HO_240000.out)
                have n1_ := zM (zO BK237.out)
                have n2_ := zM (zO BK238.out)
                have n3_ := zM (zO BK239.out)
                have n4_ := zM (zO BK244.out)
                have n5_ := zM (zO BK252.out)
                have n6_ := zM (z4 HB.out)
                clear HO_240000
                clear BK237
                clear BK238
                clear BK239
                clear BK244
                clear BK252
                clear HB
                have HO_240000 := n0_
                have BK237 := n1_
                have BK238 := n2_
                have BK239 := n3_
                have BK244 := n4_
                have BK252 := n5_
                have HB := n6_
                clear n0_ n1_ n2_ n3_ n4_ n5_ n6_
                have p257 : 0 ≤ ((ji81) : Int) := zd
                have q257 : (ji81) < (x240000_1.length : Int) := zd
                obtain ⟨ad257, A257_0, c257_0, e257, hx257_0, hx257_1, hx257_2, hx257_3, hl257_0, hi257_0⟩ := at_T40 (Kd.S_reads' HO_240000.out).2.2 (ji81) p257 q257
                cases e257
                obtain ⟨ce257, hce257, hMe257, hcc257⟩ := Kd.S_get HO_240000.out z40 (ji81) p257 (by first | exact q257 | exact zd | (have e_ := (Kd.S_reads' HO_240000.out).1; omega))
                obtain ⟨ve257_0, rfl, ge257_0⟩ := k40_openM hMe257
                have hv257_0 := hcc257 0 _ rfl
                rw [Nat.add_zero] at hv257_0
                replace hv257_0 := Option.some.inj (hv257_0.symm.trans hx257_0)
                rw [hv257_0] at ge257_0
                have HL257_0 := zM (show Kd.R k35 35 _ _ _ _ ((rd_T40 x240000_1 (ji81)).f0) from ge257_0)
                clear hv257_0 ge257_0
                have HX257_0 := zM hx257_0
                clear hcc257 hce257
                have HR257_0 := zM hi257_0
                have HC257_0 := zM hl257_0
                clear hi257_0 hl257_0
                replace p257 := eq_true p257
                replace q257 := eq_true q257
                obtain ⟨go93, co93, eo93, gb93, gl93, cl93, HG93⟩ := Kd.S_form HO_240000.out (by have h_ : ((ji81) : Int) < ((x240000_1.length : Int) : Int) := zd; have h2_ : 0 ≤ ((ji81) : Int) := (zd); omega)
                (first | cases eo93 | (injection eo93 with ea_ en_ ec_; (first | subst ea_ | (injection ea_ with ea_; subst ea_)); subst ec_; clear en_))
                have GB93 := zM gb93
                have GG93 := zM HG93
                clear gb93 gl93 HG93
                (first | simp only [add_plain] at hx257_0 | skip)
                (first | simp only [add_plain] at hx257_1 | skip)
                (first | simp only [add_plain] at hx257_2 | skip)
                (first | simp only [add_plain] at hx257_3 | skip)
                obtain ⟨oki93, ce93, hcl93, hM93, hcc93, _, _, hH93⟩ := Kd.S_elem HO_240000.out z40 ((ji81) : Int) (zd) (by have h_ : ((ji81) : Int) < ((x240000_1.length : Int) : Int) := zd; first | exact h_ | (have e_ := (Kd.S_reads' HO_240000.out).1; omega) | simpa using h_)
                obtain ⟨ve93_0, rfl, ge93_0⟩ := k40_openM hM93
                have hv93 := hcc93 0 _ rfl
                have hX93 := HX257_0.out
                (try simp only [add_plain] at hX93)
                (try simp only [Nat.add_zero] at hv93)
                replace hv93 := Option.some.inj (hv93.symm.trans hX93)
                subst hv93
                clear hX93 hcc93 hcl93
                have UU93 := zM (show Kd.R k35 35 _ w.heap.size oki93 (.slice A257_0 ((rd_T40 x240000_1 (ji81)).f0).length c257_0) ((rd_T40 x240000_1 (ji81)).f0) from ge93_0)
                have HH93 := zM hH93
                have HN93 := zM (Kd.S_reads' HO_240000.out).1
                clear hH93 ge93_0
                refine start_ (n := 15) (S := fun w' => w'.cell? ⟨gb239, 0, none⟩ = some (.slice (some ⟨go93, 0, none⟩) x240000_1.length co91) ∧ w'.cell? ⟨gb252, 0, none⟩ = some (.int .i64 t245) ∧ w'.cell? ⟨gb252, 1, none⟩ = some (.int .i64 t246) ∧ w'.cell? ⟨gb252, 2, none⟩ = some (.int .i64 t247) ∧ w'.cell? ⟨gb252, 3, none⟩ = some (.int .i64 t248) ∧ w'.cell? ⟨gb252, 4, none⟩ = some (.int .i64 t249) ∧ w'.cell? ⟨gb252, 5, none⟩ = some (.int .i64 t250) ∧ w'.cell? ⟨go93, (((ji81)).toNat * 4), none⟩ = some (.slice A257_0 ((rd_T40 x240000_1 (ji81)).f0).length c257_0) ∧ w'.cell? ⟨go93, (((ji81)).toNat * 4) + 1, none⟩ = some (.int .i64 ((rd_T40 x240000_1 (ji81)).f1.f0)) ∧ w'.cell? ⟨go93, (((ji81)).toNat * 4) + 2, none⟩ = some (.int .i64 ((rd_T40 x240000_1 (ji81)).f1.f1)) ∧ w'.cell? ⟨go93, (((ji81)).toNat * 4) + 3, none⟩ = some (.int .i64 ((rd_T40 x240000_1 (ji81)).f1.f2))) (ds := [14]) #[false, false, false, false, false, false, false, false, false, false, false, false, false, false, false] (by kernel_rfl) rfl rfl ⟨(z5 BK239.out 0).trans rfl, (z5 BK252.out 0).trans rfl, (z5 BK252.out 1).trans rfl, (z5 BK252.out 2).trans rfl, (z5 BK252.out 3).trans rfl, (z5 BK252.out 4).trans rfl, (z5 BK252.out 5).trans rfl, hx257_0, hx257_1, hx257_2, hx257_3⟩ (fun hHeld => ?_); refine with_tabW spec_ParseProgram.tab22 spec_ParseProgram.bits22 (fun HT_ HW_ => ?_)
                generalize wc.drew = w92 at HO_240000 BK237 BK238 BK239 BK244 BK252 HB GG93 HH93 HL257_0 HR257_0 HX257_0 UU93 hx257_0 hx257_1 hx257_2 hx257_3 hHeld ⊢
                refine pure_ (i := 0) (N := some 93) (v := ?_) (a' := ?_) #[true, false, false, false, false, false, false, false, false, false, false, false, false, false, false] rfl rfl (any_of HT_.out (by kernel_rfl)) (fun _ _ _ h => h) (Or.inl ⟨by rfl, ?_⟩) ?_ ?_
                rotate_left
                ·intro w'
                 go_simp
                 with_reducible rfl
                rotate_left
                ·exact zu
                refine pure_ (i := 2) (N := some 95) (v := ?_) (a' := ?_) #[true, false, true, false, false, false, false, false, false, false, false, false, false, false, false] rfl rfl (any_of HT_.out (by kernel_rfl)) (fun _ _ _ h => h) (Or.inl ⟨by rfl, ?_⟩) ?_ ?_
                rotate_left
                ·intro w'
                 go_simp
                 with_reducible rfl
                rotate_left
                ·exact zu
                refine pure_ (i := 3) (N := some 96) (v := ?_) (a' := ?_) #[true, false, true, true, false, false, false, false, false, false, false, false, false, false, false] rfl rfl (any_of HT_.out (by kernel_rfl)) (fun _ _ _ h => h) (Or.inl ⟨by rfl, ?_⟩) ?_ ?_
                rotate_left
                ·intro w'
                 go_simp
                 with_reducible rfl
                rotate_left
                ·exact zu
                refine pure_ (i := 5) (N := some 98) (v := ?_) (a' := ?_) #[true, false, true, true, false, true, false, false, false, false, false, false, false, false, false] rfl rfl (any_of HT_.out (by kernel_rfl)) (fun _ _ _ h => h) (Or.inl ⟨by rfl, ?_⟩) ?_ ?_
                rotate_left
                ·intro w'
                 go_simp
                 with_reducible rfl
                rotate_left
                ·exact zu
                refine take_ (i := 1) (N := some 94) (v := ?_) (a' := ?_) #[true, true, true, true, false, true, false, false, false, false, false, false, false, false, false] rfl rfl (take_ofW HT_.out HW_.out (by kernel_rfl)) (fun _ _ _ h => h) (Or.inl ⟨by rfl, ?_⟩) hHeld ?_ ?_
                rotate_left
                ·rintro w' ⟨s0, s1, s2, s3, s4, s5, s6, s7, s8, s9, s10⟩
                 go_simp
                 with_reducible rfl
                rotate_left
                ·exact zu
                refine take_ (i := 4) (N := some 97) (v := ?_) (a' := ?_) #[true, true, true, true, true, true, false, false, false, false, false, false, false, false, false] rfl rfl (take_ofW HT_.out HW_.out (by kernel_rfl)) (fun _ _ _ h => h) (Or.inl ⟨by rfl, ?_⟩) hHeld ?_ ?_
                rotate_left
                ·rintro w' ⟨s0, s1, s2, s3, s4, s5, s6, s7, s8, s9, s10⟩
                 go_simp
                 with_reducible rfl
                rotate_left
                ·exact zu
                refine pure_ (i := 6) (N := some 99) (v := ?_) (a' := ?_) #[true, true, true, true, true, true, true, false, false, false, false, false, false, false, false] rfl rfl (any_of HT_.out (by kernel_rfl)) (fun _ _ _ h => h) (Or.inl ⟨by rfl, ?_⟩) ?_ ?_
                rotate_left
                ·intro w'
                 go_simp
                 with_reducible rfl
                rotate_left
                ·exact zu
                refine pure_ (i := 7) (N := some 100) (v := ?_) (a' := ?_) #[true, true, true, true, true, true, true, true, false, false, false, false, false, false, false] rfl rfl (any_of HT_.out (by kernel_rfl)) (fun _ _ _ h => h) (Or.inl ⟨by rfl, ?_⟩) ?_ ?_
                rotate_left
                ·intro w'
                 go_simp
                 with_reducible rfl
                rotate_left
                ·exact zu
                refine take_ (i := 8) (N := some 101) (v := ?_) (a' := ?_) #[true, true, true, true, true, true, true, true, true, false, false, false, false, false, false] rfl rfl (take_ofW HT_.out HW_.out (by kernel_rfl)) (fun _ _ _ h => h) (Or.inl ⟨by rfl, ?_⟩) hHeld ?_ ?_
                rotate_left
                ·rintro w' ⟨s0, s1, s2, s3, s4, s5, s6, s7, s8, s9, s10⟩
                 go_simp
                 with_reducible rfl
                rotate_left
                ·exact zu
                refine take_ (i := 9) (N := some 102) (v := ?_) (a' := ?_) #[true, true, true, true, true, true, true, true, true, true, false, false, false, false, false] rfl rfl (take_ofW HT_.out HW_.out (by kernel_rfl)) (fun _ _ _ h => h) (Or.inl ⟨by rfl, ?_⟩) hHeld ?_ ?_
                rotate_left
                ·rintro w' ⟨s0, s1, s2, s3, s4, s5, s6, s7, s8, s9, s10⟩
                 go_simp
                 with_reducible rfl
                rotate_left
                ·exact zu
                refine one_ (i := 10) (N := some 103) #[true, true, true, true, true, true, true, true, true, true, true, false, false, false, false] rfl rfl (one_of HT_.out (by kernel_rfl)) (by decide) (fun K hK => ?_)
                refine value_ (w1 := ?_) (v := ?_) (by rfl) rfl ?_ ?_
                rotate_left 2
                ·go_simp
                 constructor
                 ·rfl
                 rfl
                refine hK.out _ _ ⟨(z5 (zP BK239.out _) 0).trans rfl, (z5 (zP BK252.out _) 0).trans rfl, (z5 (zP BK252.out _) 1).trans rfl, (z5 (zP BK252.out _) 2).trans rfl, (z5 (zP BK252.out _) 3).trans rfl, (z5 (zP BK252.out _) 4).trans rfl, (z5 (zP BK252.out _) 5).trans rfl, (World.cell?_alloc_lt _ _ _ (zm _ _ (hHeld.2.2.2.2.2.2.2.1))).trans (hHeld.2.2.2.2.2.2.2.1), (World.cell?_alloc_lt _ _ _ (zm _ _ (hHeld.2.2.2.2.2.2.2.2.1))).trans (hHeld.2.2.2.2.2.2.2.2.1), (World.cell?_alloc_lt _ _ _ (zm _ _ (hHeld.2.2.2.2.2.2.2.2.2.1))).trans (hHeld.2.2.2.2.2.2.2.2.2.1), (World.cell?_alloc_lt _ _ _ (zm _ _ (hHeld.2.2.2.2.2.2.2.2.2.2))).trans (hHeld.2.2.2.2.2.2.2.2.2.2)⟩ (fun hHeld => ?_)
                clear hK K
                refine norm_ (a' := ?_) ?_ ?_
                rotate_left
                ·show Act.put _ (some 103) _ = _
                 exact zu
                refine one_ (i := 11) (N := some 104) #[true, true, true, true, true, true, true, true, true, true, true, true, false, false, false] rfl rfl (one_of HT_.out (by kernel_rfl)) (by decide) (fun K hK => ?_)
                refine Kd.R_append_step k35 (w0 := w) w.heap.size (by rfl) (.tmp 101) (.tmp 103) 38 35 (.agg #[(.int .i64 0), (.int .i64 0), (.int .i64 0), (.int .i64 0), (.int .i64 0), (.int .i64 0)]) 48 rfl Tryz.underlying38 info35 rfl (by decide) (by omega) (.slice A257_0 ((rd_T40 x240000_1 (ji81)).f0).length c257_0) ((rd_T40 x240000_1 (ji81)).f0) (⟨t245, t246, t247, (⟨t248, t249, t250⟩ : S31)⟩ : S35) [.int .i64 t245, .int .i64 t246, .int .i64 t247, .int .i64 t248, .int .i64 t249, .int .i64 t250] (fun k_ => oki93 k_ ∨ ((fun k_ => k_ ≠ gb252)) k_ ∧ w92.heap.size ≤ k_) (fun _ => False) rfl rfl ?aP (fun _ hk => hk.elim) ?aF ?aO ?aB ?aS ?aL ?_
                (case aP => exact k35_mkM _ _ _ (⟨t245, t246, t247, (⟨t248, t249, t250⟩ : S31)⟩ : S35))
                (case aB => exact zb)
                (case aF => exact (fun k_ hk => .inr ⟨Kd.freshB (g := gb252) (o := .cells #[.int .i64 t245, .int .i64 t246, .int .i64 t247, .int .i64 t248, .int .i64 t249, .int .i64 t250] 35 (0, 0)) zk k_ hk, hk⟩))
                (case aO => exact (by (with_reducible repeat (first | apply zI | apply zJ | apply zK)); exact z1 UU93.out (fun _ hk => .inl hk)))
                (case aS => exact (zR zb))
                (case aL => have := LMc84.out; omega)
                intro v259 w94 ho hb hg hat
                (first | have HS7_ := cell_grown hg (hHeld.2.2.2.2.2.2.2.1) (by first | (rw [add_block]; exact (fun e_ => ((HL257_0.out.1 _ e_.symm).2) rfl)) | (show some (Addr.add _ _).block ≠ _; rw [add_block]; exact (fun e_ => ((HL257_0.out.1 _ e_.symm).2) rfl)) | exact (fun e_ => ((HL257_0.out.1 _ e_.symm).2) rfl)) | have HS7_ := cell_grown hg (cell_unalloc (hHeld.2.2.2.2.2.2.2.1) (by first | (rw [add_block]; exact Kd.S_lt HO_240000.out _ rfl) | (show (Addr.add _ _).block < _; rw [add_block]; exact Kd.S_lt HO_240000.out _ rfl) | exact Kd.S_lt HO_240000.out _ rfl)) (by first | (rw [add_block]; exact (fun e_ => ((HL257_0.out.1 _ e_.symm).2) rfl)) | (show some (Addr.add _ _).block ≠ _; rw [add_block]; exact (fun e_ => ((HL257_0.out.1 _ e_.symm).2) rfl)) | exact (fun e_ => ((HL257_0.out.1 _ e_.symm).2) rfl)))
                (first | have HS8_ := cell_grown hg (hHeld.2.2.2.2.2.2.2.2.1) (by first | (rw [add_block]; exact (fun e_ => ((HL257_0.out.1 _ e_.symm).2) rfl)) | (show some (Addr.add _ _).block ≠ _; rw [add_block]; exact (fun e_ => ((HL257_0.out.1 _ e_.symm).2) rfl)) | exact (fun e_ => ((HL257_0.out.1 _ e_.symm).2) rfl)) | have HS8_ := cell_grown hg (cell_unalloc (hHeld.2.2.2.2.2.2.2.2.1) (by first | (rw [add_block]; exact Kd.S_lt HO_240000.out _ rfl) | (show (Addr.add _ _).block < _; rw [add_block]; exact Kd.S_lt HO_240000.out _ rfl) | exact Kd.S_lt HO_240000.out _ rfl)) (by first | (rw [add_block]; exact (fun e_ => ((HL257_0.out.1 _ e_.symm).2) rfl)) | (show some (Addr.add _ _).block ≠ _; rw [add_block]; exact (fun e_ => ((HL257_0.out.1 _ e_.symm).2) rfl)) | exact (fun e_ => ((HL257_0.out.1 _ e_.symm).2) rfl)))
                (first | have HS9_ := cell_grown hg (hHeld.2.2.2.2.2.2.2.2.2.1) (by first | (rw [add_block]; exact (fun e_ => ((HL257_0.out.1 _ e_.symm).2) rfl)) | (show some (Addr.add _ _).block ≠ _; rw [add_block]; exact (fun e_ => ((HL257_0.out.1 _ e_.symm).2) rfl)) | exact (fun e_ => ((HL257_0.out.1 _ e_.symm).2) rfl)) | have HS9_ := cell_grown hg (cell_unalloc (hHeld.2.2.2.2.2.2.2.2.2.1) (by first | (rw [add_block]; exact Kd.S_lt HO_240000.out _ rfl) | (show (Addr.add _ _).block < _; rw [add_block]; exact Kd.S_lt HO_240000.out _ rfl) | exact Kd.S_lt HO_240000.out _ rfl)) (by first | (rw [add_block]; exact (fun e_ => ((HL257_0.out.1 _ e_.symm).2) rfl)) | (show some (Addr.add _ _).block ≠ _; rw [add_block]; exact (fun e_ => ((HL257_0.out.1 _ e_.symm).2) rfl)) | exact (fun e_ => ((HL257_0.out.1 _ e_.symm).2) rfl)))
                (first | have HS10_ := cell_grown hg (hHeld.2.2.2.2.2.2.2.2.2.2) (by first | (rw [add_block]; exact (fun e_ => ((HL257_0.out.1 _ e_.symm).2) rfl)) | (show some (Addr.add _ _).block ≠ _; rw [add_block]; exact (fun e_ => ((HL257_0.out.1 _ e_.symm).2) rfl)) | exact (fun e_ => ((HL257_0.out.1 _ e_.symm).2) rfl)) | have HS10_ := cell_grown hg (cell_unalloc (hHeld.2.2.2.2.2.2.2.2.2.2) (by first | (rw [add_block]; exact Kd.S_lt HO_240000.out _ rfl) | (show (Addr.add _ _).block < _; rw [add_block]; exact Kd.S_lt HO_240000.out _ rfl) | exact Kd.S_lt HO_240000.out _ rfl)) (by first | (rw [add_block]; exact (fun e_ => ((HL257_0.out.1 _ e_.symm).2) rfl)) | (show some (Addr.add _ _).block ≠ _; rw [add_block]; exact (fun e_ => ((HL257_0.out.1 _ e_.symm).2) rfl)) | exact (fun e_ => ((HL257_0.out.1 _ e_.symm).2) rfl)))
                rw [← Ny258.out] at ho
                have n0_ := zM (blk_grown (g := gb237) (o := .cells #[.slice none 0 0] 24 (0, 0)) zk hg (Kd.R_ne HL257_0.out BK237.out (by decide)))
                have n1_ := zM (blk_grown (g := gb238) (o := .cells #[.slice none 0 0] 24 (0, 0)) zk hg (Kd.R_ne HL257_0.out BK238.out (by decide)))
                have n2_ := zM (blk_grown (g := gb239) (o := .cells #[.slice (some ⟨go93, 0, none⟩) x240000_1.length co91] 24 (0, 0)) zk hg (Kd.R_ne HL257_0.out BK239.out (by decide)))
                have n3_ := zM (blk_grown (g := gb244) (o := .cells #[.int .i64 t240, .int .i64 t241, .int .i64 t242] 31 (0, 0)) zk hg (Kd.R_ne HL257_0.out BK244.out (by decide)))
                have n4_ := zM (blk_grown (g := gb252) (o := .cells #[.int .i64 t245, .int .i64 t246, .int .i64 t247, .int .i64 t248, .int .i64 t249, .int .i64 t250] 35 (0, 0)) zk hg (Kd.R_away HL257_0.out (fun _ hk => hk.1)))
                have n5_ := zM (hb)
                have n6_ := zM (Kd.H_grown (Kd.H_widen (by repeat (first | exact HH93.out | refine Kd.H_alloc ?_ _ | refine Kd.H_drewN ?_ _ | refine Kd.H_drew ?_))) hg (fun k_ e_ => .inl (UU93.out.1 k_ e_)))
                have n7_ := zM (ho)
                clear BK237
                clear BK238
                clear BK239
                clear BK244
                clear BK252
                clear HB
                clear HH93
                clear HO_240000
                clear UU93
                clear HL257_0
                have BK237 := n0_
                have BK238 := n1_
                have BK239 := n2_
                have BK244 := n3_
                have BK252 := n4_
                have HB := n5_
                have HH93 := n6_
                have HO260 := n7_
                clear n0_ n1_ n2_ n3_ n4_ n5_ n6_ n7_
                clear ho hb hg hat
                have p85 : 0 ≤ ((ji81) : Int) := zd
                have q85 : ((ji81) : Int) < ((x240000_1.length : Int) : Int) := zd
                replace p85 := eq_true p85
                replace q85 := eq_true q85
                obtain ⟨Ao97, co97, eo97⟩ := Kd.R_slice HO260.out
                (first | subst eo97 | (injection eo97 with f1_ f2_ f3_; have f4_ := f1_.symm; have f5_ := f3_.symm; clear f1_ f2_ f3_; subst f4_; subst f5_))
                obtain ⟨_, _, hraw95, _, _, hcc95, _⟩ := Kd.H_raw HH93.out (zd) (by have h_ : ((ji81) : Int) < ((x240000_1.length : Int) : Int) := zd; first | exact h_ | (have e_ := (HN93.out); omega) | simpa using h_)
                obtain ⟨_, hfr95⟩ := Kd.H_at HH93.out (zd) (by have h_ : ((ji81) : Int) < ((x240000_1.length : Int) : Int) := zd; first | exact h_ | (have e_ := (HN93.out); omega) | simpa using h_)
                have hx95_0 := hcc95 0 _ rfl
                have hf95_0 := hfr95 0
                (try simp only [Nat.add_zero] at hx95_0 hf95_0)
                (try rw [show (k40).sz = 4 from rfl] at hx95_0)
                (try rw [show (k40).sz = 4 from rfl] at hf95_0)
                have HP95 := Kd.S_seg0 HH93.out (zd) (by have h_ : ((ji81) : Int) < ((x240000_1.length : Int) : Int) := zd; first | exact h_ | (have e_ := (HN93.out); omega) | simpa using h_) (seg := [.slice Ao97 y258.length co97]) (j := 0) (show 1 ≤ 4 from by decide) (x' := (⟨y258, (⟨(rd_T40 x240000_1 (ji81)).f1.f0, (rd_T40 x240000_1 (ji81)).f1.f1, (rd_T40 x240000_1 (ji81)).f1.f2⟩ : S31)⟩ : S40)) (k40_mkM _ _ _ (⟨y258, (⟨(rd_T40 x240000_1 (ji81)).f1.f0, (rd_T40 x240000_1 (ji81)).f1.f1, (rd_T40 x240000_1 (ji81)).f1.f2⟩ : S31)⟩ : S40) HO260.out) (fun _ hk => hk)
                clear hcc95 hfr95
                have HNB237_go93 := zM (show gb237 ≠ go93 from by have h_ := Kd.R_ne hraw95 BK237.out (by decide); intro e_; exact h_ (by rw [e_]; rfl))
                have HNB238_go93 := zM (show gb238 ≠ go93 from by have h_ := Kd.R_ne hraw95 BK238.out (by decide); intro e_; exact h_ (by rw [e_]; rfl))
                have HNB239_go93 := zM (show gb239 ≠ go93 from by have h_ := Kd.R_ne hraw95 BK239.out (by decide); intro e_; exact h_ (by rw [e_]; rfl))
                have HNB244_go93 := zM (show gb244 ≠ go93 from by have h_ := Kd.R_ne hraw95 BK244.out (by decide); intro e_; exact h_ (by rw [e_]; rfl))
                have HNB252_go93 := zM (show gb252 ≠ go93 from by have h_ := Kd.R_ne hraw95 BK252.out (by decide); intro e_; exact h_ (by rw [e_]; rfl))
                have HS95 := HP95.1
                rw [← Ny261.out] at HS95
                have HQ95 := zM HS95
                obtain ⟨_, hgg95⟩ := Kd.R_typed hraw95 go93 rfl
                have GG95_ := zM hgg95
                clear HP95 HS95 hgg95
                refine hK.out _ _ ⟨(z5 BK239.out 0).trans rfl, (z5 BK252.out 0).trans rfl, (z5 BK252.out 1).trans rfl, (z5 BK252.out 2).trans rfl, (z5 BK252.out 3).trans rfl, (z5 BK252.out 4).trans rfl, (z5 BK252.out 5).trans rfl, HS7_, HS8_, HS9_, HS10_⟩ (fun hHeld => ?_)
                clear hK K
                refine norm_ (a' := ?_) ?_ ?_
                rotate_left
                ·show Act.put _ (some 104) _ = _
                 exact zu
                refine pure_ (i := 12) (N := some 105) (v := ?_) (a' := ?_) #[true, true, true, true, true, true, true, true, true, true, true, true, true, false, false] rfl rfl (any_of HT_.out (by kernel_rfl)) (fun _ _ _ h => h) (Or.inl ⟨by rfl, ?_⟩) ?_ ?_
                rotate_left
                ·intro w'
                 go_simp
                 with_reducible rfl
                rotate_left
                ·exact zu
                refine pure_ (i := 13) (N := some 106) (v := ?_) (a' := ?_) #[true, true, true, true, true, true, true, true, true, true, true, true, true, true, false] rfl rfl (any_of HT_.out (by kernel_rfl)) (fun _ _ _ h => h) (Or.inl ⟨by rfl, ?_⟩) ?_ ?_
                rotate_left
                ·intro w'
                 go_simp
                 with_reducible rfl
                rotate_left
                ·exact zu
                refine last_ (i := 14) (N := none) #[true, true, true, true, true, true, true, true, true, true, true, true, true, true, true] rfl rfl (one_of HT_.out (by kernel_rfl)) (by decide) (fun K hK => ?_)
                refine skip_ (w1 := ?_) (by rfl) rfl ?_ ?_
                rotate_left
                ·go_simp
                 rfl
                refine hK.out _ _ ?_
                clear hK K
                refine done_ (done_of HT_.out (by kernel_rfl)) ?_
                try go_wp2
                go_roundg kj56
                case measure => have := HK1.out; have := HJ21.out; have := HJ56.out; omega
                case rel => exact ⟨((wrap64 (x8_1 + 1))), ((wrap64 (x7_1 + 1))), (wrap64 (x8_1 + 1)), (y261), (.slice (some ⟨go93, 0, none⟩) x240000_1.length co91), zs, zs, zs, H', ⟨by have := HK1.out; have := HJ21.out; have := HJ56.out; omega⟩, ⟨by (with_reducible repeat (first | apply zU | apply zV | apply zW)); exact Kd.S_mono HQ95.out (fun _ hk => trivial)⟩, ⟨zl HNB237_go93.out BK237.out⟩, ⟨zl HNB238_go93.out BK238.out⟩, ⟨zl HNB239_go93.out BK239.out⟩, ⟨by repeat (first | (with_reducible first | exact HB.out | apply z2 | apply z3 | apply z4 | refine zS ?_ GB93.out | refine zS ?_ GE237.out | refine zS ?_ GE238.out | refine zS ?_ GE239.out | refine zS ?_ GE244.out | refine zS ?_ GE252.out) | exact HB.out)⟩⟩
               rw [if_neg c84] at H
               exact absurd H (by simp)
              rw [if_neg c83] at H
              exact absurd H (by simp)
             rw [if_neg c82] at H
             exact absurd H (by simp)
            rw [if_neg c80] at H
            have c80b0 : decide (0 < (x240000_1.length : Int)) = false := decide_eq_false c80
            have c80b1 : decide (0 < x240000_1.length) = false := decide_eq_false (by omega)
            clear c80
            have H' := zM H
            clear H
            have hnb98 := NB239_237.out
            have hnc98 := NB237_239.out
            have hnb99 := NB239_238.out
            have hnc99 := NB238_239.out
            have hnb100 := NB239_244.out
            have hnc100 := NB244_239.out
            have hnb101 := NB239_252.out
            have hnc101 := NB252_239.out
            have hcz102_0 := (z5 BK239.out 0).trans rfl
            have hfz102_0 := z6 BK239.out 0
            obtain ⟨Ao103, co103, eo103⟩ := Kd.S_slice HO_240000.out
            subst eo103
            go_wp2
            go_roundg kj56
            case measure => have := HK1.out; have := HJ21.out; have := HJ56.out; omega
            case rel => exact ⟨((wrap64 (x8_1 + 1))), ((wrap64 (x7_1 + 1))), (wrap64 (x8_1 + 1)), (x240000_1), (.slice Ao103 x240000_1.length co103), zs, zs, zs, H', ⟨by have := HK1.out; have := HJ21.out; have := HJ56.out; omega⟩, ⟨by (with_reducible repeat (first | apply zU | apply zV | apply zW)); exact Kd.S_mono HO_240000.out (fun _ hk => trivial)⟩, ⟨zk⟩, ⟨zk⟩, ⟨zk⟩, ⟨zb⟩⟩
           replace c79 := Bool.eq_false_iff.mpr c79
           subst c79
           have H1 : (some (([] : List (S40)), (wrap64 (x7_1 + 1)))) = some (r1, r2) := by rw [if_neg (show ¬ (false = true) by decide)] at H; exact H
           clear H
           have H := H1
           clear H1
           simp only [Option.some.injEq, Prod.mk.injEq] at H
           obtain ⟨rfl, rfl⟩ := H
           have hnb104 := NB238_237.out
           have hnc104 := NB237_238.out
           have hnb105 := NB238_239.out
           have hnc105 := NB239_238.out
           have hnb106 := NB238_244.out
           have hnc106 := NB244_238.out
           have hnb107 := NB238_252.out
           have hnc107 := NB252_238.out
           have hcz108_0 := (z5 BK238.out 0).trans rfl
           have hfz108_0 := z6 BK238.out 0
           have hnb109 := NB237_239.out
           have hnc109 := NB239_237.out
           have hnb110 := NB237_244.out
           have hnc110 := NB244_237.out
           have hnb111 := NB237_252.out
           have hnc111 := NB252_237.out
           have hcz112_0 := (z5 BK237.out 0).trans rfl
           have hfz112_0 := z6 BK237.out 0
           go_wp2
           refine bodyPost_ret (results_ct rfl _ _ gb237 24 #[.slice none 0 0] (0, 0) _ rfl (by (with_reducible repeat (first | refine zN ?_ _ | refine zO ?_ | refine zP ?_ _)); refine blk_put (cs := #[.slice none 0 0]) ?_ 0 _ rfl; (with_reducible repeat (first | refine zN ?_ _ | refine zO ?_ | refine zP ?_ _)); exact BK237.out) Tryz.underlying24 rfl (by kernel_rfl)) rfl ?_
           exact ⟨_, by first | rfl | (simp [errW_none, errW_some] <;> rfl) | (simp [*, errW_none, errW_some] <;> rfl), by first | exact Kd.S_nil _ _ _ _ _ | exact Kd.N_nil _ _ _ _ _ | exact Kd.V_nil _ _ _ _ _ | exact Kd.Q_nil _ _ _ _ _ | exact Kd.R_nil _ _ _ _ _, zb⟩
        rw [if_neg c32] at H
        exact absurd H (by simp)
       rw [if_neg c31] at H
       exact absurd H (by simp)
      rw [if_neg c30] at H
      exact absurd H (by simp)
   rw [if_neg c21] at H
   have c21b0 : decide (x8_1 ≤ (a0.size : Int)) = false := decide_eq_false c21
   clear c21
   replace H := Option.bind_eq_some_iff.mp H
   obtain ⟨t262, A1130, H⟩ := H
   replace H : (if t262.toList = a0.toList then ((spec_ProgramOk.f k1 x240000_1).bind fun t263 => (if t263 = true then (some (x240000_1, 0)) else (some (([] : List (S40)), (-2))))) else (some (([] : List (S40)), (-2)))) = some (r1, r2) := H
   have A113 := zM A1130
   clear A1130
   by_cases c114 : t262.toList = a0.toList
   ·rw [if_pos c114] at H
    have c114b0 : (t262.toList == a0.toList) = true := beq_iff_eq.mpr c114
    have c114b1 : (t262.toList != a0.toList) = false := bne_eq_false_iff_eq.mpr c114
    clear c114
    replace H := Option.bind_eq_some_iff.mp H
    obtain ⟨t263, A1150, H⟩ := H
    replace H : (if t263 = true then (some (x240000_1, 0)) else (some (([] : List (S40)), (-2)))) = some (r1, r2) := H
    have A115 := zM A1150
    clear A1150
    by_cases c116 : t263 = true
    ·subst c116
     have H1 : (some (x240000_1, 0)) = some (r1, r2) := by rw [if_pos rfl] at H; exact H
     clear H
     have H := H1
     clear H1
     simp only [Option.some.injEq, Prod.mk.injEq] at H
     obtain ⟨rfl, rfl⟩ := H
     have hnb117 := NB239_237.out
     have hnc117 := NB237_239.out
     have hnb118 := NB239_238.out
     have hnc118 := NB238_239.out
     have hcz119_0 := (z5 BK239.out 0).trans rfl
     have hfz119_0 := z6 BK239.out 0
     obtain ⟨Ao120, co120, eo120⟩ := Kd.S_slice HO_240000.out
     subst eo120
     go_wp2_with (first | ((with_reducible refine gate_callee (f := 12) rfl ?_); refine goesL_ (some 108) rfl rfl Tryz.func12 (by kernel_rfl) rfl #[.agg #[.slice Ao120 x240000_1.length co120]] rfl zg ?_; (with_reducible refine (spec_ProgramText.calls k1 _ _ x240000_1 t262 _ ?side1 ?side2 A113.out).mono ?_); (case side1 => repeat (first | exact (Kd.S_reads' HO_240000.out).2.2 | (with_reducible refine zF ?_ _) | (with_reducible refine zG ?_ _) | (with_reducible refine zH ?_))); (case side2 => exact (Kd.S_reads' HO_240000.out).2.1); rintro e w121 ⟨rfl, hb⟩; refine ⟨_, rfl, ?_⟩; have n0_ := zM (Kd.S_below (by (with_reducible repeat (first | apply zU | apply zV | apply zW)); exact HO_240000.out) hb); have n1_ := zM (z7 (g := gb237) (o := .cells #[.slice none 0 0] 24 (0, 0)) zk hb); have n2_ := zM (z7 (g := gb238) (o := .cells #[.slice none 0 0] 24 (0, 0)) zk hb); have n3_ := zM (z7 (g := gb239) (o := .cells #[.slice Ao120 x240000_1.length co120] 24 (0, 0)) zk hb); have n4_ := zM (zQ zb hb); clear HO_240000; clear BK237; clear BK238; clear BK239; clear HB; have HO_240000 := n0_; have BK237 := n1_; have BK238 := n2_; have BK239 := n3_; have HB := n4_; clear n0_ n1_ n2_ n3_ n4_; (try clear hb); have hcz122_0 := (z5 BK239.out 0).trans rfl; have hfz122_0 := z6 BK239.out 0) | (go_at_call 13; (with_reducible refine (spec_ProgramOk.calls k1 _ _ x240000_1 true _ ?side1 ?side2 A115.out).mono ?_); (case side1 => repeat (first | exact (Kd.S_reads' HO_240000.out).2.2 | (with_reducible refine zF ?_ _) | (with_reducible refine zG ?_ _) | (with_reducible refine zH ?_))); (case side2 => exact (Kd.S_reads' HO_240000.out).2.1); rintro e w123 ⟨rfl, hb⟩; have n0_ := zM (Kd.S_below (by (with_reducible repeat (first | apply zU | apply zV | apply zW)); exact HO_240000.out) hb); have n1_ := zM (z7 (g := gb237) (o := .cells #[.slice none 0 0] 24 (0, 0)) zk hb); have n2_ := zM (z7 (g := gb238) (o := .cells #[.slice none 0 0] 24 (0, 0)) zk hb); have n3_ := zM (z7 (g := gb239) (o := .cells #[.slice Ao120 x240000_1.length co120] 24 (0, 0)) zk hb); have n4_ := zM (zQ zb hb); clear HO_240000; clear BK237; clear BK238; clear BK239; clear HB; have HO_240000 := n0_; have BK237 := n1_; have BK238 := n2_; have BK239 := n3_; have HB := n4_; clear n0_ n1_ n2_ n3_ n4_; (try clear hb); have hcz124_0 := (z5 BK239.out 0).trans rfl; have hfz124_0 := z6 BK239.out 0; have hnb125 := NB237_238.out; have hnc125 := NB238_237.out; have hcz126_0 := (z5 BK237.out 0).trans rfl; have hfz126_0 := z6 BK237.out 0))
     refine bodyPost_ret (results_ct rfl _ _ gb237 24 #[.slice Ao120 x240000_1.length co120] (0, 0) _ rfl (by (with_reducible repeat (first | refine zN ?_ _ | refine zO ?_ | refine zP ?_ _)); refine blk_put (cs := #[.slice none 0 0]) ?_ 0 _ rfl; (with_reducible repeat (first | refine zN ?_ _ | refine zO ?_ | refine zP ?_ _)); exact BK237.out) Tryz.underlying24 rfl (by kernel_rfl)) rfl ?_
     exact ⟨_, by first | rfl | (simp [errW_none, errW_some] <;> rfl) | (simp [*, errW_none, errW_some] <;> rfl), by (with_reducible repeat (first | apply zU | apply zV | apply zW)); exact Kd.S_mono (Kd.S_far (p := ⟨gb237, 0, none⟩) (Kd.S_types HO_240000.out BK237.out (by decide)) (fun _ hk => hk.2) (.slice Ao120 x240000_1.length co120)) (fun _ hk => trivial), zb⟩
    replace c116 := Bool.eq_false_iff.mpr c116
    subst c116
    have H1 : (some (([] : List (S40)), (-2))) = some (r1, r2) := by rw [if_neg (show ¬ (false = true) by decide)] at H; exact H
    clear H
    have H := H1
    clear H1
    simp only [Option.some.injEq, Prod.mk.injEq] at H
    obtain ⟨rfl, rfl⟩ := H
    have hnb127 := NB239_237.out
    have hnc127 := NB237_239.out
    have hnb128 := NB239_238.out
    have hnc128 := NB238_239.out
    have hcz129_0 := (z5 BK239.out 0).trans rfl
    have hfz129_0 := z6 BK239.out 0
    obtain ⟨Ao130, co130, eo130⟩ := Kd.S_slice HO_240000.out
    subst eo130
    go_wp2_with (first | ((with_reducible refine gate_callee (f := 12) rfl ?_); refine goesL_ (some 108) rfl rfl Tryz.func12 (by kernel_rfl) rfl #[.agg #[.slice Ao130 x240000_1.length co130]] rfl zg ?_; (with_reducible refine (spec_ProgramText.calls k1 _ _ x240000_1 t262 _ ?side1 ?side2 A113.out).mono ?_); (case side1 => repeat (first | exact (Kd.S_reads' HO_240000.out).2.2 | (with_reducible refine zF ?_ _) | (with_reducible refine zG ?_ _) | (with_reducible refine zH ?_))); (case side2 => exact (Kd.S_reads' HO_240000.out).2.1); rintro e w131 ⟨rfl, hb⟩; refine ⟨_, rfl, ?_⟩; have n0_ := zM (Kd.S_below (by (with_reducible repeat (first | apply zU | apply zV | apply zW)); exact HO_240000.out) hb); have n1_ := zM (z7 (g := gb237) (o := .cells #[.slice none 0 0] 24 (0, 0)) zk hb); have n2_ := zM (z7 (g := gb238) (o := .cells #[.slice none 0 0] 24 (0, 0)) zk hb); have n3_ := zM (z7 (g := gb239) (o := .cells #[.slice Ao130 x240000_1.length co130] 24 (0, 0)) zk hb); have n4_ := zM (zQ zb hb); clear HO_240000; clear BK237; clear BK238; clear BK239; clear HB; have HO_240000 := n0_; have BK237 := n1_; have BK238 := n2_; have BK239 := n3_; have HB := n4_; clear n0_ n1_ n2_ n3_ n4_; (try clear hb); have hcz132_0 := (z5 BK239.out 0).trans rfl; have hfz132_0 := z6 BK239.out 0) | (go_at_call 13; (with_reducible refine (spec_ProgramOk.calls k1 _ _ x240000_1 false _ ?side1 ?side2 A115.out).mono ?_); (case side1 => repeat (first | exact (Kd.S_reads' HO_240000.out).2.2 | (with_reducible refine zF ?_ _) | (with_reducible refine zG ?_ _) | (with_reducible refine zH ?_))); (case side2 => exact (Kd.S_reads' HO_240000.out).2.1); rintro e w133 ⟨rfl, hb⟩; have n0_ := zM (Kd.S_below (by (with_reducible repeat (first | apply zU | apply zV | apply zW)); exact HO_240000.out) hb); have n1_ := zM (z7 (g := gb237) (o := .cells #[.slice none 0 0] 24 (0, 0)) zk hb); have n2_ := zM (z7 (g := gb238) (o := .cells #[.slice none 0 0] 24 (0, 0)) zk hb); have n3_ := zM (z7 (g := gb239) (o := .cells #[.slice Ao130 x240000_1.length co130] 24 (0, 0)) zk hb); have n4_ := zM (zQ zb hb); clear HO_240000; clear BK237; clear BK238; clear BK239; clear HB; have HO_240000 := n0_; have BK237 := n1_; have BK238 := n2_; have BK239 := n3_; have HB := n4_; clear n0_ n1_ n2_ n3_ n4_; (try clear hb); have hnb134 := NB238_237.out; have hnc134 := NB237_238.out; have hcz135_0 := (z5 BK238.out 0).trans rfl; have hfz135_0 := z6 BK238.out 0; have hcz136_0 := (z5 BK237.out 0).trans rfl; have hfz136_0 := z6 BK237.out 0))
    refine bodyPost_ret (results_ct rfl _ _ gb237 24 #[.slice none 0 0] (0, 0) _ rfl (by (with_reducible repeat (first | refine zN ?_ _ | refine zO ?_ | refine zP ?_ _)); refine blk_put (cs := #[.slice none 0 0]) ?_ 0 _ rfl; (with_reducible repeat (first | refine zN ?_ _ | refine zO ?_ | refine zP ?_ _)); exact BK237.out) Tryz.underlying24 rfl (by kernel_rfl)) rfl ?_
    exact ⟨_, by first | rfl | (simp [errW_none, errW_some] <;> rfl) | (simp [*, errW_none, errW_some] <;> rfl), by first | exact Kd.S_nil _ _ _ _ _ | exact Kd.N_nil _ _ _ _ _ | exact Kd.V_nil _ _ _ _ _ | exact Kd.Q_nil _ _ _ _ _ | exact Kd.R_nil _ _ _ _ _, zb⟩
   rw [if_neg c114] at H
   have c114b0 : (t262.toList == a0.toList) = false := beq_eq_false_iff_ne.mpr c114
   have c114b1 : (t262.toList != a0.toList) = true := bne_iff_ne.mpr c114
   simp only [Option.some.injEq, Prod.mk.injEq] at H
   obtain ⟨rfl, rfl⟩ := H
   have hnb137 := NB239_237.out
   have hnc137 := NB237_239.out
   have hnb138 := NB239_238.out
   have hnc138 := NB238_239.out
   have hcz139_0 := (z5 BK239.out 0).trans rfl
   have hfz139_0 := z6 BK239.out 0
   obtain ⟨Ao140, co140, eo140⟩ := Kd.S_slice HO_240000.out
   subst eo140
   go_wp2_with (first | ((with_reducible refine gate_callee (f := 12) rfl ?_); refine goesL_ (some 108) rfl rfl Tryz.func12 (by kernel_rfl) rfl #[.agg #[.slice Ao140 x240000_1.length co140]] rfl zg ?_; (with_reducible refine (spec_ProgramText.calls k1 _ _ x240000_1 t262 _ ?side1 ?side2 A113.out).mono ?_); (case side1 => repeat (first | exact (Kd.S_reads' HO_240000.out).2.2 | (with_reducible refine zF ?_ _) | (with_reducible refine zG ?_ _) | (with_reducible refine zH ?_))); (case side2 => exact (Kd.S_reads' HO_240000.out).2.1); rintro e w141 ⟨rfl, hb⟩; refine ⟨_, rfl, ?_⟩; have n0_ := zM (Kd.S_below (by (with_reducible repeat (first | apply zU | apply zV | apply zW)); exact HO_240000.out) hb); have n1_ := zM (z7 (g := gb237) (o := .cells #[.slice none 0 0] 24 (0, 0)) zk hb); have n2_ := zM (z7 (g := gb238) (o := .cells #[.slice none 0 0] 24 (0, 0)) zk hb); have n3_ := zM (z7 (g := gb239) (o := .cells #[.slice Ao140 x240000_1.length co140] 24 (0, 0)) zk hb); have n4_ := zM (zQ zb hb); clear HO_240000; clear BK237; clear BK238; clear BK239; clear HB; have HO_240000 := n0_; have BK237 := n1_; have BK238 := n2_; have BK239 := n3_; have HB := n4_; clear n0_ n1_ n2_ n3_ n4_; (try clear hb); have hnb142 := NB238_237.out; have hnc142 := NB237_238.out; have hcz143_0 := (z5 BK238.out 0).trans rfl; have hfz143_0 := z6 BK238.out 0; have hcz144_0 := (z5 BK237.out 0).trans rfl; have hfz144_0 := z6 BK237.out 0))
   refine bodyPost_ret (results_ct rfl _ _ gb237 24 #[.slice none 0 0] (0, 0) _ rfl (by (with_reducible repeat (first | refine zN ?_ _ | refine zO ?_ | refine zP ?_ _)); refine blk_put (cs := #[.slice none 0 0]) ?_ 0 _ rfl; (with_reducible repeat (first | refine zN ?_ _ | refine zO ?_ | refine zP ?_ _)); exact BK237.out) Tryz.underlying24 rfl (by kernel_rfl)) rfl ?_
   exact ⟨_, by first | rfl | (simp [errW_none, errW_some] <;> rfl) | (simp [*, errW_none, errW_some] <;> rfl), by first | exact Kd.S_nil _ _ _ _ _ | exact Kd.N_nil _ _ _ _ _ | exact Kd.V_nil _ _ _ _ _ | exact Kd.Q_nil _ _ _ _ _ | exact Kd.R_nil _ _ _ _ _, zb⟩
end Go.Proofs.YtcpmkcidehhbiaaGreatDoor.PFnExactParseProgram
