/- Walks of the functions that a statement reaches, written by a program (the printing program, mended): no condition. -/
import Derived.Test.YtcpmkcidehhbiaaGreatDoorPFnExactParseProgramx0
import Derived.Test.YtcpmkcidehhbiaaGreatDoorPFnExactParseProgramx12
import Derived.Test.YtcpmkcidehhbiaaGreatDoorPFnExactParseProgramx15
import Derived.Test.YtcpmkcidehhbiaaGreatDoorPFnExactParseProgramx16
import Derived.Test.YtcpmkcidehhbiaaGreatDoorPFnExactParseProgramx17
namespace Go.Proofs.YtcpmkcidehhbiaaGreatDoor.PFnExactParseProgram
open Go.RowKit Go.Proofs.YtcpmkcidehhbiaaGreatDoorW.PrintWords Go.Proofs.YtcpmkcidehhbiaaGreatDoorW.PrintLast Go.Proofs.YtcpmkcidehhbiaaGreatDoorW.PrintMore
attribute [local go_sem] max2_int min2_int max_two min_two max_three min_three max_four min_four
set_option linter.unusedVariables false
set_option maxRecDepth 100000
set_option maxHeartbeats 8000000
set_option linter.unusedSimpArgs false
def impl_ParseProgram.l0 : Nat → ByteArray → List ByteArray → Int → Int → List (S40) → Option ((List (S40)) × Int)
 | 0, _, _, _, _, _ => none
 | k + 1, x0, x19, x20, x21, x332000 => if x21 < x20 then (if 0 ≤ x21 then (if x21 < (x19.length : Int) then ((impl_parseTaskLine.f k (rdOf ByteArray.empty x19 x21)).bind fun bt337 => ((impl_parseStmt.f k (rdOf ByteArray.empty x19 x21)).bind fun bt342 => (if bt337.2.2.2 = true then (if x332000.length < 2932031007402 then (impl_ParseProgram.l0 k x0 x19 x20 (wrap64 (x21 + 1)) (x332000 ++ [(⟨([] : List (S35)), (⟨bt337.1, bt337.2.1, bt337.2.2.1⟩ : S31)⟩ : S40)])) else (none)) else (if bt342.2.2.2.2.2.2 = true then (if (wrap64 ((x332000.length : Int) - 1)) ≥ 0 then (if 0 ≤ (wrap64 ((x332000.length : Int) - 1)) then (if (wrap64 ((x332000.length : Int) - 1)) < (x332000.length : Int) then (if ((rd_T40 x332000 (wrap64 ((x332000.length : Int) - 1))).f0).length < 2932031007402 then (impl_ParseProgram.l0 k x0 x19 x20 (wrap64 (x21 + 1)) (x332000.set ((wrap64 ((x332000.length : Int) - 1)) : Int).toNat (⟨(((rd_T40 x332000 (wrap64 ((x332000.length : Int) - 1))).f0) ++ [(⟨bt342.1, bt342.2.1, bt342.2.2.1, (⟨bt342.2.2.2.1, bt342.2.2.2.2.1, bt342.2.2.2.2.2.1⟩ : S31)⟩ : S35)]), (⟨(rd_T40 x332000 (wrap64 ((x332000.length : Int) - 1))).f1.f0, (rd_T40 x332000 (wrap64 ((x332000.length : Int) - 1))).f1.f1, (rd_T40 x332000 (wrap64 ((x332000.length : Int) - 1))).f1.f2⟩ : S31)⟩ : S40))) else (none)) else (none)) else (none)) else (impl_ParseProgram.l0 k x0 x19 x20 (wrap64 (x21 + 1)) x332000)) else (some (([] : List (S40)), wrap64 (x21 + 1))))))) else (none)) else (none)) else ((impl_ProgramText.f k x332000).bind fun t335 => (if t335.toList = ([] : List UInt8) then (some (([] : List (S40)), (-2))) else (if t335.toList = x0.toList then (some (x332000, 0)) else (some (([] : List (S40)), (-2))))))
def impl_ParseProgram.f (k : Nat) (a0 : ByteArray) : Option ((List (S40)) × Int) := if (a0.size : Int) > 20000 then (some (([] : List (S40)), (-1))) else ((impl_linesOf.f a0).bind fun t332 => (impl_ParseProgram.l0 k a0 t332 (t332.length : Int) 0 ([] : List (S40))))
theorem impl_ParseProgram.mono_l : ∀ k, (∀ y0 y1 y2 y3 y4, LeO (impl_ParseProgram.l0 k y0 y1 y2 y3 y4) (impl_ParseProgram.l0 (k + 1) y0 y1 y2 y3 y4))
 | 0 => fun _ _ _ _ _ r h => by simp [impl_ParseProgram.l0] at h
 | k + 1 => by
  have ih0 := impl_ParseProgram.mono_l k
  intro y0 y1 y2 y3 y4
  unfold impl_ParseProgram.l0
  repeat' first | (with_reducible first | exact ih0 _ _ _ _ _ | exact impl_ProgramText.mono _ _ | exact impl_parseStmt.mono _ _ | exact impl_parseTaskLine.mono _ _ | exact LeO.refl _ | exact LeO.none _ | refine LeO.ite ?_ ?_ | refine LeO.bind ?_ (fun _ => ?_)) | exact ih0 _ _ _ _ _ | exact impl_ProgramText.mono _ _ | exact impl_parseStmt.mono _ _ | exact impl_parseTaskLine.mono _ _ | exact LeO.none _ | refine LeO.ite ?_ ?_ | refine LeO.bind ?_ (fun _ => ?_)
theorem impl_ParseProgram.mono : ∀ a0 k, LeO (impl_ParseProgram.f k a0) (impl_ParseProgram.f (k + 1) a0) := by
 intro a0 k
 have ih0 := impl_ParseProgram.mono_l k
 unfold impl_ParseProgram.f
 repeat' first | (with_reducible first | exact ih0 _ _ _ _ _ | exact impl_ProgramText.mono _ _ | exact impl_parseStmt.mono _ _ | exact impl_parseTaskLine.mono _ _ | exact LeO.refl _ | exact LeO.none _ | refine LeO.ite ?_ ?_ | refine LeO.bind ?_ (fun _ => ?_)) | exact ih0 _ _ _ _ _ | exact impl_ProgramText.mono _ _ | exact impl_parseStmt.mono _ _ | exact impl_parseTaskLine.mono _ _ | exact LeO.none _ | refine LeO.ite ?_ ?_ | refine LeO.bind ?_ (fun _ => ?_)
def impl_ParseProgram.T15 : Bool × List (List Nat × List Nat) := (true, [([], []), ([0], [0]), ([], []), ([], []), ([3], [3]), ([], []), ([4, 5], [4, 5]), ([6], [6]), ([7], [7]), ([], []), ([9], [9]), ([8, 10], [8, 10]), ([1, 2, 0, 1, 2, 3, 4, 5, 6, 7, 8, 9, 10, 11], [1, 2]), ([12, 0, 1, 2, 3, 4, 5, 6, 7, 8, 9, 10, 11], [12]), ([13, 11, 11, 0, 1, 2, 3, 4, 5, 6, 7, 8, 9, 10, 11], [11, 13])])
def impl_ParseProgram.B15 : List Nat := [0, 1, 0, 0, 8, 0, 56, 120, 248, 0, 512, 2040, 4095, 8191, 16383]
theorem impl_ParseProgram.tab15 : rtab .any (opsOf Tryz.f5 15) = impl_ParseProgram.T15 := by kernel_rfl
theorem impl_ParseProgram.bits15 : waitsOk impl_ParseProgram.T15.2 impl_ParseProgram.B15 = true := by kernel_rfl
theorem impl_ParseProgram.calls (k : Nat) (a0 : ByteArray) (r1 : List (S40)) (r2 : Int) (w : World) (h : impl_ParseProgram.f k a0 = some (r1, r2)) (hGL : GL w := by first | exact HGL.out | exact GL.below HGL.out (by repeat (first | (with_reducible first | exact HB.out | apply z2 | apply z3 | apply z4 | refine zS ?_ (Aside0.out (by assumption))) | exact HB.out))) :
  Calls Tryz.prog 5 #[.string a0] w fun e w' => ∃ v0_ : Value, e = .returned (.tuple #[.agg #[v0_], .int .i64 r2]) ∧ Kd.S k40 40 w' w.heap.size (fun _ => True) v0_ r1 ∧ Below w.heap.size w w' := by
 have HGL := zM hGL
 clear hGL
 have hu24 := Tryz.underlying24
 have hu31 := Tryz.underlying31
 have hu35 := Tryz.underlying35
 have hu40 := Tryz.underlying40
 have HB := zM (Below.refl w.heap.size w)
 have H : (if (a0.size : Int) > 20000 then (some (([] : List (S40)), (-1))) else ((impl_linesOf.f a0).bind fun t332 => (impl_ParseProgram.l0 k a0 t332 (t332.length : Int) 0 ([] : List (S40))))) = some (r1, r2) := h
 clear h
 by_cases c2 : (a0.size : Int) > 20000
 ·rw [if_pos c2] at H
  have c2b0 : decide (20000 < (a0.size : Int)) = true := decide_eq_true c2
  have c2b1 : decide (20000 < a0.size) = true := decide_eq_true (by omega)
  clear c2
  simp only [Option.some.injEq, Prod.mk.injEq] at H
  obtain ⟨rfl, rfl⟩ := H
  go_enter Tryz.func5, Tryz.ntmps5
  go_wp2_with (first | ((with_reducible refine gate_dst (N := 2) rfl ?_); refine box_event ?hg (N := 2) ?hd (cs := #[.slice none 0 0]) (t := 24) ?hr ?_; (case hd => rfl); (case hg => rfl); (case hr => first | (go_simp; done) | (go_simp; rfl)); intro gb330 hg w3 hbox hb; have n0_ := zM (zQ zb hb); have n1_ := zM (hbox); have n2_ := zM ((by rw [hg]; exact (zR zb) : w.heap.size ≤ gb330)); have n3_ := zM ((by rw [hg]; exact (zR zb) : w.heap.size ≤ gb330)); clear HB; have HB := n0_; have BK330 := n1_; have GW330 := n2_; have GE330 := n3_; clear n0_ n1_ n2_ n3_; clear hb hbox hg; have hcz4_0 := (z5 BK330.out 0).trans rfl; have hfz4_0 := z6 BK330.out 0))
  refine bodyPost_ret (results_ct rfl _ _ gb330 24 #[.slice none 0 0] (0, 0) _ rfl (by (with_reducible repeat (first | refine zN ?_ _ | refine zO ?_ | refine zP ?_ _)); refine blk_put (cs := #[.slice none 0 0]) ?_ 0 _ rfl; (with_reducible repeat (first | refine zN ?_ _ | refine zO ?_ | refine zP ?_ _)); exact BK330.out) Tryz.underlying24 rfl (by kernel_rfl)) rfl ?_
  exact ⟨_, by first | rfl | (simp [errW_none, errW_some] <;> rfl) | (simp [*, errW_none, errW_some] <;> rfl), by first | exact Kd.S_nil _ _ _ _ _ | exact Kd.N_nil _ _ _ _ _ | exact Kd.V_nil _ _ _ _ _ | exact Kd.Q_nil _ _ _ _ _ | exact Kd.R_nil _ _ _ _ _, zb⟩
 rw [if_neg c2] at H
 have c2b0 : decide (20000 < (a0.size : Int)) = false := decide_eq_false c2
 have c2b1 : decide (20000 < a0.size) = false := decide_eq_false (by omega)
 clear c2
 replace H := Option.bind_eq_some_iff.mp H
 obtain ⟨t332, A50, H⟩ := H
 replace H : (impl_ParseProgram.l0 k a0 t332 (t332.length : Int) 0 ([] : List (S40))) = some (r1, r2) := H
 have A5 := zM A50
 clear A50
 have H' := zM H
 clear H
 go_enter Tryz.func5, Tryz.ntmps5
 go_wp2_with (first | ((with_reducible refine gate_dst (N := 2) rfl ?_); refine box_event ?hg (N := 2) ?hd (cs := #[.slice none 0 0]) (t := 24) ?hr ?_; (case hd => rfl); (case hg => rfl); (case hr => first | (go_simp; done) | (go_simp; rfl)); intro gb330 hg w6 hbox hb; have n0_ := zM (zQ zb hb); have n1_ := zM (hbox); have n2_ := zM ((by rw [hg]; exact (zR zb) : w.heap.size ≤ gb330)); have n3_ := zM ((by rw [hg]; exact (zR zb) : w.heap.size ≤ gb330)); clear HB; have HB := n0_; have BK330 := n1_; have GW330 := n2_; have GE330 := n3_; clear n0_ n1_ n2_ n3_; clear hb hbox hg) | ((with_reducible refine gate_dst (N := 4) rfl ?_); refine box_event ?hg (N := 4) ?hd (cs := #[.slice none 0 0]) (t := 24) ?hr ?_; (case hd => rfl); (case hg => rfl); (case hr => first | (go_simp; done) | (go_simp; rfl)); intro gb331 hg w7 hbox hb; have n0_ := zM (z7 (g := gb330) (o := .cells #[.slice none 0 0] 24 (0, 0)) zk hb); have n1_ := zM (zQ zb hb); have n2_ := zM (hbox); have n3_ := zM ((by rw [hg]; exact (zR zb) : w.heap.size ≤ gb331)); have n4_ := zM ((by rw [hg]; exact (zR zb) : w.heap.size ≤ gb331)); have n5_ := zM ((by rw [hg]; exact Nat.ne_of_lt (blk_lt (g := gb330) (o := .cells #[.slice none 0 0] 24 (0, 0)) zk) : gb330 ≠ gb331)); have n6_ := zM ((by rw [hg]; exact Nat.ne_of_gt (blk_lt (g := gb330) (o := .cells #[.slice none 0 0] 24 (0, 0)) zk) : gb331 ≠ gb330)); clear BK330; clear HB; have BK330 := n0_; have HB := n1_; have BK331 := n2_; have GW331 := n3_; have GE331 := n4_; have NB330_331 := n5_; have NB331_330 := n6_; clear n0_ n1_ n2_ n3_ n4_ n5_ n6_; clear hb hbox hg; have hnb8 := NB331_330.out; have hnc8 := NB330_331.out; have hcz9_0 := (z5 BK331.out 0).trans rfl; have hfz9_0 := z6 BK331.out 0) | ((with_reducible refine gate_callee (f := 14) rfl ?_); refine goesL_ (some 19) rfl rfl Tryz.func14 (by kernel_rfl) rfl #[.string a0] rfl zg ?_; (with_reducible refine (impl_linesOf.calls a0 t332 _ A5.out).mono ?_); rintro e w10 ⟨v333, rfl, ho0, hb⟩; refine ⟨_, rfl, ?_⟩; have n0_ := zM (zf ho0 (zR zb)); have n1_ := zM (z7 (g := gb330) (o := .cells #[.slice none 0 0] 24 (0, 0)) (zl NB330_331.out BK330.out) hb); have n2_ := zM (z7 (g := gb331) (o := .cells #[.slice none 0 0] 24 (0, 0)) (by (with_reducible repeat (first | refine zN ?_ _ | refine zO ?_ | refine zP ?_ _)); refine blk_put (cs := #[.slice none 0 0]) ?_ 0 _ rfl; (with_reducible repeat (first | refine zN ?_ _ | refine zO ?_ | refine zP ?_ _)); exact BK331.out) hb); have n3_ := zM (zQ zb hb); clear BK330; clear BK331; clear HB; have HO334 := n0_; have BK330 := n1_; have BK331 := n2_; have HB := n3_; clear n0_ n1_ n2_ n3_; (try clear hb); (try clear ho0); obtain ⟨Ao11, co11, eo11⟩ := Kd.R_slice HO334.out; subst eo11))
 go_loopg [21] k (fun kq v21 w' => ∃ (x21_1 : Int) (x332000_1 : List (S40)) (u332000 : Value), v21 = .int .i64 x21_1 ∧ Aside0 (impl_ParseProgram.l0 kq a0 t332 (t332.length : Int) x21_1 x332000_1 = some (r1, r2)) ∧ Aside0 (kq ≤ k) ∧ Aside0 (Kd.R Kd.string 9 w' w.heap.size (fun _ => True) (.slice Ao11 t332.length co11) t332) ∧ Aside0 (Kd.S k40 40 w' w.heap.size (fun _ => True) u332000 x332000_1) ∧ Aside0 (w'.heap[gb330]? = some (.cells #[(.slice none 0 0)] 24 (0, 0))) ∧ Aside0 (w'.heap[gb331]? = some (.cells #[u332000] 24 (0, 0))) ∧ Aside0 (Below w.heap.size w w'))
 case atStart => exact ⟨(0), (([] : List (S40))), (.slice none 0 0), zs, H', ⟨Nat.le_refl _⟩, ⟨by (with_reducible repeat (first | apply zI | apply zJ | apply zK)); exact HO334.out⟩, ⟨by first | exact Kd.S_nil _ _ _ _ _ | exact Kd.N_nil _ _ _ _ _ | exact Kd.V_nil _ _ _ _ _ | exact Kd.Q_nil _ _ _ _ _ | exact Kd.R_nil _ _ _ _ _⟩, ⟨zk⟩, ⟨zk⟩, ⟨zb⟩⟩
 case round =>
  clear H'
  try clear c1
  try clear c2
  try clear c2b0
  try clear c2b1
  try clear p2
  try clear c5
  try clear c8
  try clear hcz4_0
  try clear hcz9_0
  try clear hfz4_0
  try clear hfz9_0
  obtain ⟨x21_1, x332000_1, u332000, rfl, HA, HK1, HO_19, HO_332000, BK330, BK331, HB⟩ := hrel
  cases gk with
  | zero => exact absurd HA.out (by simp [impl_ParseProgram.l0])
  | succ k1 =>
   have H := HA.out
   clear HA
   simp only [impl_ParseProgram.l0] at H
   by_cases c12 : x21_1 < (t332.length : Int)
   ·rw [if_pos c12] at H
    have c12b0 : decide (x21_1 < (t332.length : Int)) = true := decide_eq_true c12
    clear c12
    by_cases c13 : 0 ≤ x21_1
    ·rw [if_pos c13] at H
     have c13b0 : decide (0 ≤ x21_1) = true := decide_eq_true c13
     clear c13
     by_cases c14 : x21_1 < (t332.length : Int)
     ·rw [if_pos c14] at H
      have c14b0 : decide (x21_1 < (t332.length : Int)) = true := decide_eq_true c14
      clear c14
      replace H := Option.bind_eq_some_iff.mp H
      obtain ⟨⟨t337, t338, t339, t340⟩, A150, H⟩ := H
      replace H : ((impl_parseStmt.f k1 (rdOf ByteArray.empty t332 x21_1)).bind fun bt342 => (if t340 = true then (if x332000_1.length < 2932031007402 then (impl_ParseProgram.l0 k1 a0 t332 (t332.length : Int) (wrap64 (x21_1 + 1)) (x332000_1 ++ [(⟨([] : List (S35)), (⟨t337, t338, t339⟩ : S31)⟩ : S40)])) else (none)) else (if bt342.2.2.2.2.2.2 = true then (if (wrap64 ((x332000_1.length : Int) - 1)) ≥ 0 then (if 0 ≤ (wrap64 ((x332000_1.length : Int) - 1)) then (if (wrap64 ((x332000_1.length : Int) - 1)) < (x332000_1.length : Int) then (if ((rd_T40 x332000_1 (wrap64 ((x332000_1.length : Int) - 1))).f0).length < 2932031007402 then (impl_ParseProgram.l0 k1 a0 t332 (t332.length : Int) (wrap64 (x21_1 + 1)) (x332000_1.set ((wrap64 ((x332000_1.length : Int) - 1)) : Int).toNat (⟨(((rd_T40 x332000_1 (wrap64 ((x332000_1.length : Int) - 1))).f0) ++ [(⟨bt342.1, bt342.2.1, bt342.2.2.1, (⟨bt342.2.2.2.1, bt342.2.2.2.2.1, bt342.2.2.2.2.2.1⟩ : S31)⟩ : S35)]), (⟨(rd_T40 x332000_1 (wrap64 ((x332000_1.length : Int) - 1))).f1.f0, (rd_T40 x332000_1 (wrap64 ((x332000_1.length : Int) - 1))).f1.f1, (rd_T40 x332000_1 (wrap64 ((x332000_1.length : Int) - 1))).f1.f2⟩ : S31)⟩ : S40))) else (none)) else (none)) else (none)) else (impl_ParseProgram.l0 k1 a0 t332 (t332.length : Int) (wrap64 (x21_1 + 1)) x332000_1)) else (some (([] : List (S40)), wrap64 (x21_1 + 1)))))) = some (r1, r2) := H
      have A15 := zM A150
      clear A150
      replace H := Option.bind_eq_some_iff.mp H
      obtain ⟨⟨t342, t343, t344, t345, t346, t347, t348⟩, A160, H⟩ := H
      replace H : (if t340 = true then (if x332000_1.length < 2932031007402 then (impl_ParseProgram.l0 k1 a0 t332 (t332.length : Int) (wrap64 (x21_1 + 1)) (x332000_1 ++ [(⟨([] : List (S35)), (⟨t337, t338, t339⟩ : S31)⟩ : S40)])) else (none)) else (if t348 = true then (if (wrap64 ((x332000_1.length : Int) - 1)) ≥ 0 then (if 0 ≤ (wrap64 ((x332000_1.length : Int) - 1)) then (if (wrap64 ((x332000_1.length : Int) - 1)) < (x332000_1.length : Int) then (if ((rd_T40 x332000_1 (wrap64 ((x332000_1.length : Int) - 1))).f0).length < 2932031007402 then (impl_ParseProgram.l0 k1 a0 t332 (t332.length : Int) (wrap64 (x21_1 + 1)) (x332000_1.set ((wrap64 ((x332000_1.length : Int) - 1)) : Int).toNat (⟨(((rd_T40 x332000_1 (wrap64 ((x332000_1.length : Int) - 1))).f0) ++ [(⟨t342, t343, t344, (⟨t345, t346, t347⟩ : S31)⟩ : S35)]), (⟨(rd_T40 x332000_1 (wrap64 ((x332000_1.length : Int) - 1))).f1.f0, (rd_T40 x332000_1 (wrap64 ((x332000_1.length : Int) - 1))).f1.f1, (rd_T40 x332000_1 (wrap64 ((x332000_1.length : Int) - 1))).f1.f2⟩ : S31)⟩ : S40))) else (none)) else (none)) else (none)) else (impl_ParseProgram.l0 k1 a0 t332 (t332.length : Int) (wrap64 (x21_1 + 1)) x332000_1)) else (some (([] : List (S40)), wrap64 (x21_1 + 1))))) = some (r1, r2) := H
      have A16 := zM A160
      clear A160
      by_cases c17 : t340 = true
      ·subst c17
       have H1 : (if x332000_1.length < 2932031007402 then (impl_ParseProgram.l0 k1 a0 t332 (t332.length : Int) (wrap64 (x21_1 + 1)) (x332000_1 ++ [(⟨([] : List (S35)), (⟨t337, t338, t339⟩ : S31)⟩ : S40)])) else (none)) = some (r1, r2) := by rw [if_pos rfl] at H; exact H
       clear H
       have H := H1
       clear H1
       by_cases c18 : x332000_1.length < 2932031007402
       ·rw [if_pos c18] at H
        have LMc18 := zM c18
        clear c18
        obtain ⟨y350, hyq⟩ : ∃ y_ : List (S40), y_ = (x332000_1 ++ [(⟨([] : List (S35)), (⟨t337, t338, t339⟩ : S31)⟩ : S40)]) := ⟨_, rfl⟩
        replace H : (impl_ParseProgram.l0 k1 a0 t332 (t332.length : Int) (wrap64 (x21_1 + 1)) y350) = some (r1, r2) := zh
        have Ny350 := zM hyq
        clear hyq
        have H' := zM H
        clear H
        have p336 : 0 ≤ (x21_1 : Int) := zd
        have q336 : x21_1 < (t332.length : Int) := zd
        obtain ⟨ad336, e336, hx336_0⟩ := Kd.at_string (z9 HO_19.out).2.2 x21_1 p336 q336
        cases e336
        replace p336 := eq_true p336
        replace q336 := eq_true q336
        go_wp2_with (first | ((with_reducible refine gate_callee (f := 15) rfl ?_); refine goesL_ (some 28) rfl rfl Tryz.func15 (by kernel_rfl) rfl #[.string (rdOf ByteArray.empty t332 x21_1)] rfl zg ?_; (with_reducible refine (impl_parseTaskLine.calls k1 (rdOf ByteArray.empty t332 x21_1) t337 t338 t339 true _ A15.out).mono ?_); rintro e w19 ⟨rfl, hb⟩; refine ⟨_, rfl, ?_⟩; have n0_ := zM (ze (by (with_reducible repeat (first | apply zI | apply zJ | apply zK)); exact HO_19.out) hb); have n1_ := zM (Kd.S_below (by (with_reducible repeat (first | apply zU | apply zV | apply zW)); exact HO_332000.out) hb); have n2_ := zM (z7 (g := gb330) (o := .cells #[.slice none 0 0] 24 (0, 0)) zk hb); have n3_ := zM (z7 (g := gb331) (o := .cells #[u332000] 24 (0, 0)) zk hb); have n4_ := zM (zQ zb hb); clear HO_19; clear HO_332000; clear BK330; clear BK331; clear HB; have HO_19 := n0_; have HO_332000 := n1_; have BK330 := n2_; have BK331 := n3_; have HB := n4_; clear n0_ n1_ n2_ n3_ n4_; (try clear hb); (try clear hk)) | ((with_reducible refine gate_dst (N := 7) rfl ?_); refine box_event ?hg (N := 7) ?hd (cs := #[.int .i64 0, .int .i64 0, .int .i64 0]) (t := 31) ?hr ?_; (case hd => rfl); (case hg => rfl); (case hr => first | (go_simp; done) | (go_simp; rfl)); intro gb341 hg w20 hbox hb; have n0_ := zM (ze (by (with_reducible repeat (first | apply zI | apply zJ | apply zK)); exact HO_19.out) hb); have n1_ := zM (Kd.S_below (by (with_reducible repeat (first | apply zU | apply zV | apply zW)); exact HO_332000.out) hb); have n2_ := zM (z7 (g := gb330) (o := .cells #[.slice none 0 0] 24 (0, 0)) zk hb); have n3_ := zM (z7 (g := gb331) (o := .cells #[u332000] 24 (0, 0)) zk hb); have n4_ := zM (zQ zb hb); have n5_ := zM (hbox); have n6_ := zM ((by rw [hg]; exact (zR zb) : w.heap.size ≤ gb341)); have n7_ := zM ((by rw [hg]; exact (zR zb) : w.heap.size ≤ gb341)); have n8_ := zM ((by rw [hg]; exact Nat.ne_of_lt (blk_lt (g := gb330) (o := .cells #[.slice none 0 0] 24 (0, 0)) zk) : gb330 ≠ gb341)); have n9_ := zM ((by rw [hg]; exact Nat.ne_of_gt (blk_lt (g := gb330) (o := .cells #[.slice none 0 0] 24 (0, 0)) zk) : gb341 ≠ gb330)); have n10_ := zM ((by rw [hg]; exact Nat.ne_of_lt (blk_lt (g := gb331) (o := .cells #[u332000] 24 (0, 0)) zk) : gb331 ≠ gb341)); have n11_ := zM ((by rw [hg]; exact Nat.ne_of_gt (blk_lt (g := gb331) (o := .cells #[u332000] 24 (0, 0)) zk) : gb341 ≠ gb331)); clear HO_19; clear HO_332000; clear BK330; clear BK331; clear HB; have HO_19 := n0_; have HO_332000 := n1_; have BK330 := n2_; have BK331 := n3_; have HB := n4_; have BK341 := n5_; have GW341 := n6_; have GE341 := n7_; have NB330_341 := n8_; have NB341_330 := n9_; have NB331_341 := n10_; have NB341_331 := n11_; clear n0_ n1_ n2_ n3_ n4_ n5_ n6_ n7_ n8_ n9_ n10_ n11_; clear hb hbox hg; have hnb21 := NB341_330.out; have hnc21 := NB330_341.out; have hnb22 := NB341_331.out; have hnc22 := NB331_341.out; have hcz23_0 := (z5 BK341.out 0).trans rfl; have hcz23_1 := (z5 BK341.out 1).trans rfl; have hcz23_2 := (z5 BK341.out 2).trans rfl; have hfz23_0 := z6 BK341.out 0; have hfz23_1 := z6 BK341.out 1; have hfz23_2 := z6 BK341.out 2) | ((with_reducible refine gate_callee (f := 16) rfl ?_); refine goesL_ (some 33) rfl rfl Tryz.func16 (by kernel_rfl) rfl #[.string (rdOf ByteArray.empty t332 x21_1)] rfl zg ?_; (with_reducible refine (impl_parseStmt.calls k1 (rdOf ByteArray.empty t332 x21_1) t342 t343 t344 t345 t346 t347 t348 _ A16.out).mono ?_); rintro e w24 ⟨rfl, hb⟩; refine ⟨_, rfl, ?_⟩; have n0_ := zM (ze (by (with_reducible repeat (first | apply zI | apply zJ | apply zK)); exact (z1 (zc (p := ⟨gb341, 2, none⟩) (zc (p := ⟨gb341, 1, none⟩) (zc (p := ⟨gb341, 0, none⟩) (Kd.R_types HO_19.out BK341.out (by decide)) (fun _ hk => hk.2) (.int .i64 t337)) (fun _ hk => hk.2) (.int .i64 t338)) (fun _ hk => hk.2) (.int .i64 t339)) (fun _ h_ => h_.1))) hb); have n1_ := zM (Kd.S_below (by (with_reducible repeat (first | apply zU | apply zV | apply zW)); exact (Kd.S_mono (Kd.S_far (p := ⟨gb341, 2, none⟩) (Kd.S_far (p := ⟨gb341, 1, none⟩) (Kd.S_far (p := ⟨gb341, 0, none⟩) (Kd.S_types HO_332000.out BK341.out (by decide)) (fun _ hk => hk.2) (.int .i64 t337)) (fun _ hk => hk.2) (.int .i64 t338)) (fun _ hk => hk.2) (.int .i64 t339)) (fun _ h_ => h_.1))) hb); have n2_ := zM (z7 (g := gb330) (o := .cells #[.slice none 0 0] 24 (0, 0)) (zl NB330_341.out BK330.out) hb); have n3_ := zM (z7 (g := gb331) (o := .cells #[u332000] 24 (0, 0)) (zl NB331_341.out BK331.out) hb); have n4_ := zM (z7 (g := gb341) (o := .cells #[.int .i64 t337, .int .i64 t338, .int .i64 t339] 31 (0, 0)) (by (with_reducible repeat (first | refine zN ?_ _ | refine zO ?_ | refine zP ?_ _)); refine blk_put (cs := #[.int .i64 t337, .int .i64 t338, .int .i64 0]) ?_ 2 _ rfl; (with_reducible repeat (first | refine zN ?_ _ | refine zO ?_ | refine zP ?_ _)); refine blk_put (cs := #[.int .i64 t337, .int .i64 0, .int .i64 0]) ?_ 1 _ rfl; (with_reducible repeat (first | refine zN ?_ _ | refine zO ?_ | refine zP ?_ _)); refine blk_put (cs := #[.int .i64 0, .int .i64 0, .int .i64 0]) ?_ 0 _ rfl; (with_reducible repeat (first | refine zN ?_ _ | refine zO ?_ | refine zP ?_ _)); exact BK341.out) hb); have n5_ := zM (zQ zb hb); clear HO_19; clear HO_332000; clear BK330; clear BK331; clear BK341; clear HB; have HO_19 := n0_; have HO_332000 := n1_; have BK330 := n2_; have BK331 := n3_; have BK341 := n4_; have HB := n5_; clear n0_ n1_ n2_ n3_ n4_ n5_; (try clear hb); (try clear hk)) | ((with_reducible refine gate_dst (N := 9) rfl ?_); refine box_event ?hg (N := 9) ?hd (cs := #[.int .i64 0, .int .i64 0, .int .i64 0, .int .i64 0, .int .i64 0, .int .i64 0]) (t := 35) ?hr ?_; (case hd => rfl); (case hg => rfl); (case hr => first | (go_simp; done) | (go_simp; rfl)); intro gb349 hg w25 hbox hb; have n0_ := zM (ze (by (with_reducible repeat (first | apply zI | apply zJ | apply zK)); exact HO_19.out) hb); have n1_ := zM (Kd.S_below (Kd.S_elderB (by (with_reducible repeat (first | apply zU | apply zV | apply zW)); exact HO_332000.out) gb349 (Nat.le_of_eq hg.symm)) hb); have n2_ := zM (z7 (g := gb330) (o := .cells #[.slice none 0 0] 24 (0, 0)) zk hb); have n3_ := zM (z7 (g := gb331) (o := .cells #[u332000] 24 (0, 0)) zk hb); have n4_ := zM (z7 (g := gb341) (o := .cells #[.int .i64 t337, .int .i64 t338, .int .i64 t339] 31 (0, 0)) zk hb); have n5_ := zM (zQ zb hb); have n6_ := zM (hbox); have n7_ := zM ((by rw [hg]; exact (zR zb) : w.heap.size ≤ gb349)); have n8_ := zM ((by rw [hg]; exact (zR zb) : w.heap.size ≤ gb349)); have n9_ := zM ((by rw [hg]; exact Nat.ne_of_lt (blk_lt (g := gb330) (o := .cells #[.slice none 0 0] 24 (0, 0)) zk) : gb330 ≠ gb349)); have n10_ := zM ((by rw [hg]; exact Nat.ne_of_gt (blk_lt (g := gb330) (o := .cells #[.slice none 0 0] 24 (0, 0)) zk) : gb349 ≠ gb330)); have n11_ := zM ((by rw [hg]; exact Nat.ne_of_lt (blk_lt (g := gb331) (o := .cells #[u332000] 24 (0, 0)) zk) : gb331 ≠ gb349)); have n12_ := zM ((by rw [hg]; exact Nat.ne_of_gt (blk_lt (g := gb331) (o := .cells #[u332000] 24 (0, 0)) zk) : gb349 ≠ gb331)); have n13_ := zM ((by rw [hg]; exact Nat.ne_of_lt (blk_lt (g := gb341) (o := .cells #[.int .i64 t337, .int .i64 t338, .int .i64 t339] 31 (0, 0)) zk) : gb341 ≠ gb349)); have n14_ := zM ((by rw [hg]; exact Nat.ne_of_gt (blk_lt (g := gb341) (o := .cells #[.int .i64 t337, .int .i64 t338, .int .i64 t339] 31 (0, 0)) zk) : gb349 ≠ gb341)); clear HO_19; clear HO_332000; clear BK330; clear BK331; clear BK341; clear HB; have HO_19 := n0_; have HO_332000 := n1_; have BK330 := n2_; have BK331 := n3_; have BK341 := n4_; have HB := n5_; have BK349 := n6_; have GW349 := n7_; have GE349 := n8_; have NB330_349 := n9_; have NB349_330 := n10_; have NB331_349 := n11_; have NB349_331 := n12_; have NB341_349 := n13_; have NB349_341 := n14_; clear n0_ n1_ n2_ n3_ n4_ n5_ n6_ n7_ n8_ n9_ n10_ n11_ n12_ n13_ n14_; clear hb hbox hg; have hnb26 := NB349_330.out; have hnc26 := NB330_349.out; have hnb27 := NB349_331.out; have hnc27 := NB331_349.out; have hnb28 := NB349_341.out; have hnc28 := NB341_349.out; have hcz29_0 := (z5 BK349.out 0).trans rfl; have hcz29_1 := (z5 BK349.out 1).trans rfl; have hcz29_2 := (z5 BK349.out 2).trans rfl; have hcz29_3 := (z5 BK349.out 3).trans rfl; have hcz29_4 := (z5 BK349.out 4).trans rfl; have hcz29_5 := (z5 BK349.out 5).trans rfl; have hfz29_0 := z6 BK349.out 0; have hfz29_1 := z6 BK349.out 1; have hfz29_2 := z6 BK349.out 2; have hfz29_3 := z6 BK349.out 3; have hfz29_4 := z6 BK349.out 4; have hfz29_5 := z6 BK349.out 5; have hnb30 := NB331_330.out; have hnc30 := NB330_331.out; have hcz31_0 := (z5 BK331.out 0).trans rfl; have hfz31_0 := z6 BK331.out 0; obtain ⟨Ao32, co32, eo32⟩ := Kd.S_slice HO_332000.out; subst eo32; have hcz33_0 := (z5 BK341.out 0).trans rfl; have hcz33_1 := (z5 BK341.out 1).trans rfl; have hcz33_2 := (z5 BK341.out 2).trans rfl; have hfz33_0 := z6 BK341.out 0; have hfz33_1 := z6 BK341.out 1; have hfz33_2 := z6 BK341.out 2) | ((with_reducible refine gate_builtin (b := .append) (xs := #[.tmp 43, .tmp 46]) rfl ?_); at_builtin; refine Kd.S_append k40 (w0 := w) w.heap.size rfl (.tmp 43) (.tmp 46) 22 40 (.agg #[(.slice none 0 0), (.int .i64 0), (.int .i64 0), (.int .i64 0)]) 48 rfl Tryz.underlying22 info40 rfl (by decide) (by omega) (.slice Ao32 x332000_1.length co32) x332000_1 (⟨([] : List (S35)), (⟨t337, t338, t339⟩ : S31)⟩ : S40) [.slice none 0 0, .int .i64 t337, .int .i64 t338, .int .i64 t339] (fun k_ => k_ ≠ gb349) (fun _ => False) rfl (by first | (go_simp; done) | (go_simp; rfl)) ?aP (fun k_ hk_ => hk_.elim) ?aF ?aO ?aB ?aS ?aL ?_; (case aP => exact k40_mkM _ _ _ (⟨([] : List (S35)), (⟨t337, t338, t339⟩ : S31)⟩ : S40) (Kd.R_nil _ _ _ _ _)); (case aB => exact zb); (case aF => exact (fun k_ hk => Kd.freshB (g := gb349) (o := .cells #[.int .i64 t342, .int .i64 t343, .int .i64 t344, .int .i64 t345, .int .i64 t346, .int .i64 t347] 35 (0, 0)) (by (with_reducible repeat (first | refine zN ?_ _ | refine zO ?_ | refine zP ?_ _)); refine blk_put (cs := #[.int .i64 t342, .int .i64 t343, .int .i64 t344, .int .i64 t345, .int .i64 t346, .int .i64 0]) ?_ 5 _ rfl; (with_reducible repeat (first | refine zN ?_ _ | refine zO ?_ | refine zP ?_ _)); refine blk_put (cs := #[.int .i64 t342, .int .i64 t343, .int .i64 t344, .int .i64 t345, .int .i64 0, .int .i64 0]) ?_ 4 _ rfl; (with_reducible repeat (first | refine zN ?_ _ | refine zO ?_ | refine zP ?_ _)); refine blk_put (cs := #[.int .i64 t342, .int .i64 t343, .int .i64 t344, .int .i64 0, .int .i64 0, .int .i64 0]) ?_ 3 _ rfl; (with_reducible repeat (first | refine zN ?_ _ | refine zO ?_ | refine zP ?_ _)); refine blk_put (cs := #[.int .i64 t342, .int .i64 t343, .int .i64 0, .int .i64 0, .int .i64 0, .int .i64 0]) ?_ 2 _ rfl; (with_reducible repeat (first | refine zN ?_ _ | refine zO ?_ | refine zP ?_ _)); refine blk_put (cs := #[.int .i64 t342, .int .i64 0, .int .i64 0, .int .i64 0, .int .i64 0, .int .i64 0]) ?_ 1 _ rfl; (with_reducible repeat (first | refine zN ?_ _ | refine zO ?_ | refine zP ?_ _)); refine blk_put (cs := #[.int .i64 0, .int .i64 0, .int .i64 0, .int .i64 0, .int .i64 0, .int .i64 0]) ?_ 0 _ rfl; (with_reducible repeat (first | refine zN ?_ _ | refine zO ?_ | refine zP ?_ _)); exact BK349.out) k_ hk)); (case aO => exact (by (with_reducible repeat (first | apply zU | apply zV | apply zW)); exact Kd.S_mono (Kd.S_far (p := ⟨gb349, 5, none⟩) (Kd.S_far (p := ⟨gb349, 4, none⟩) (Kd.S_far (p := ⟨gb349, 3, none⟩) (Kd.S_far (p := ⟨gb349, 2, none⟩) (Kd.S_far (p := ⟨gb349, 1, none⟩) (Kd.S_far (p := ⟨gb349, 0, none⟩) (Kd.S_mono HO_332000.out (fun k_ hk => (⟨hk, hk.2⟩ : _ ∧ k_ ≠ gb349))) (fun _ hk => hk.2) (.int .i64 t342)) (fun _ hk => hk.2) (.int .i64 t343)) (fun _ hk => hk.2) (.int .i64 t344)) (fun _ hk => hk.2) (.int .i64 t345)) (fun _ hk => hk.2) (.int .i64 t346)) (fun _ hk => hk.2) (.int .i64 t347)) (fun k_ hk => ⟨hk.1.2, fun e_ => e_⟩))); (case aS => exact (zR zb)); (case aL => have := LMc18.out; omega); intro v351 w34 ho hb hg hat; (first | rw [← Ny350.out] at ho | (simp only [Int.reduceToNat] at ho; rw [← Ny350.out] at ho)); have n0_ := zM (Kd.R_over' (by (with_reducible repeat (first | apply zI | apply zJ | apply zK)); exact (z1 (zc (p := ⟨gb349, 5, none⟩) (zc (p := ⟨gb349, 4, none⟩) (zc (p := ⟨gb349, 3, none⟩) (zc (p := ⟨gb349, 2, none⟩) (zc (p := ⟨gb349, 1, none⟩) (zc (p := ⟨gb349, 0, none⟩) (Kd.R_types HO_19.out BK349.out (by decide)) (fun _ hk => hk.2) (.int .i64 t342)) (fun _ hk => hk.2) (.int .i64 t343)) (fun _ hk => hk.2) (.int .i64 t344)) (fun _ hk => hk.2) (.int .i64 t345)) (fun _ hk => hk.2) (.int .i64 t346)) (fun _ hk => hk.2) (.int .i64 t347)) (fun _ h_ => h_.1))) (Kd.S_typed (by (with_reducible repeat (first | apply zU | apply zV | apply zW)); exact (Kd.S_mono (Kd.S_far (p := ⟨gb349, 5, none⟩) (Kd.S_far (p := ⟨gb349, 4, none⟩) (Kd.S_far (p := ⟨gb349, 3, none⟩) (Kd.S_far (p := ⟨gb349, 2, none⟩) (Kd.S_far (p := ⟨gb349, 1, none⟩) (Kd.S_far (p := ⟨gb349, 0, none⟩) (Kd.S_mono HO_332000.out (fun k_ hk => (⟨hk, hk.2⟩ : _ ∧ k_ ≠ gb349))) (fun _ hk => hk.2) (.int .i64 t342)) (fun _ hk => hk.2) (.int .i64 t343)) (fun _ hk => hk.2) (.int .i64 t344)) (fun _ hk => hk.2) (.int .i64 t345)) (fun _ hk => hk.2) (.int .i64 t346)) (fun _ hk => hk.2) (.int .i64 t347)) (fun _ h_ => h_.1)))) (by decide) hg); have n1_ := zM (blk_grown (g := gb330) (o := .cells #[.slice none 0 0] 24 (0, 0)) (zl NB330_349.out BK330.out) hg (Kd.S_ne HO_332000.out BK330.out (by decide))); have n2_ := zM (blk_grown (g := gb331) (o := .cells #[.slice Ao32 x332000_1.length co32] 24 (0, 0)) (zl NB331_349.out BK331.out) hg (Kd.S_ne HO_332000.out BK331.out (by decide))); have n3_ := zM (blk_grown (g := gb341) (o := .cells #[.int .i64 t337, .int .i64 t338, .int .i64 t339] 31 (0, 0)) (zl NB341_349.out BK341.out) hg (Kd.S_ne HO_332000.out BK341.out (by decide))); have n4_ := zM (blk_grown (g := gb349) (o := .cells #[.int .i64 t342, .int .i64 t343, .int .i64 t344, .int .i64 t345, .int .i64 t346, .int .i64 t347] 35 (0, 0)) (by (with_reducible repeat (first | refine zN ?_ _ | refine zO ?_ | refine zP ?_ _)); refine blk_put (cs := #[.int .i64 t342, .int .i64 t343, .int .i64 t344, .int .i64 t345, .int .i64 t346, .int .i64 0]) ?_ 5 _ rfl; (with_reducible repeat (first | refine zN ?_ _ | refine zO ?_ | refine zP ?_ _)); refine blk_put (cs := #[.int .i64 t342, .int .i64 t343, .int .i64 t344, .int .i64 t345, .int .i64 0, .int .i64 0]) ?_ 4 _ rfl; (with_reducible repeat (first | refine zN ?_ _ | refine zO ?_ | refine zP ?_ _)); refine blk_put (cs := #[.int .i64 t342, .int .i64 t343, .int .i64 t344, .int .i64 0, .int .i64 0, .int .i64 0]) ?_ 3 _ rfl; (with_reducible repeat (first | refine zN ?_ _ | refine zO ?_ | refine zP ?_ _)); refine blk_put (cs := #[.int .i64 t342, .int .i64 t343, .int .i64 0, .int .i64 0, .int .i64 0, .int .i64 0]) ?_ 2 _ rfl; (with_reducible repeat (first | refine zN ?_ _ | refine zO ?_ | refine zP ?_ _)); refine blk_put (cs := #[.int .i64 t342, .int .i64 0, .int .i64 0, .int .i64 0, .int .i64 0, .int .i64 0]) ?_ 1 _ rfl; (with_reducible repeat (first | refine zN ?_ _ | refine zO ?_ | refine zP ?_ _)); refine blk_put (cs := #[.int .i64 0, .int .i64 0, .int .i64 0, .int .i64 0, .int .i64 0, .int .i64 0]) ?_ 0 _ rfl; (with_reducible repeat (first | refine zN ?_ _ | refine zO ?_ | refine zP ?_ _)); exact BK349.out) hg (Kd.S_ne HO_332000.out BK349.out (by decide))); have n5_ := zM (hb); have n6_ := zM (ho); clear HO_19; clear BK330; clear BK331; clear BK341; clear BK349; clear HB; clear HO_332000; have HO_19 := n0_; have BK330 := n1_; have BK331 := n2_; have BK341 := n3_; have BK349 := n4_; have HB := n5_; have HO352 := n6_; clear n0_ n1_ n2_ n3_ n4_ n5_ n6_; clear ho hb hg hat; obtain ⟨Ao35, co35, eo35⟩ := Kd.S_slice HO352.out; subst eo35; have hcz36_0 := (z5 BK331.out 0).trans rfl; have hfz36_0 := z6 BK331.out 0))
        go_roundg k1
        case measure => have := HK1.out; omega
        case rel => exact ⟨(wrap64 (x21_1 + 1)), (y350), (.slice Ao35 y350.length co35), zs, H', ⟨by have := HK1.out; omega⟩, ⟨by (with_reducible repeat (first | apply zI | apply zJ | apply zK)); exact z1 (zc (p := ⟨gb331, 0, none⟩) (Kd.R_types HO_19.out BK331.out (by decide)) (fun _ hk => hk.2) (.slice Ao35 y350.length co35)) (fun _ hk => trivial)⟩, ⟨by (with_reducible repeat (first | apply zU | apply zV | apply zW)); exact Kd.S_mono (Kd.S_far (p := ⟨gb331, 0, none⟩) (Kd.S_types HO352.out BK331.out (by decide)) (fun _ hk => hk.2) (.slice Ao35 y350.length co35)) (fun _ hk => trivial)⟩, ⟨zl NB330_331.out BK330.out⟩, ⟨by (with_reducible repeat (first | refine zN ?_ _ | refine zO ?_ | refine zP ?_ _)); refine blk_put (cs := #[.slice Ao32 x332000_1.length co32]) ?_ 0 _ rfl; (with_reducible repeat (first | refine zN ?_ _ | refine zO ?_ | refine zP ?_ _)); exact BK331.out⟩, ⟨zb⟩⟩
       rw [if_neg c18] at H
       exact absurd H (by simp)
      replace c17 := Bool.eq_false_iff.mpr c17
      subst c17
      have H1 : (if t348 = true then (if (wrap64 ((x332000_1.length : Int) - 1)) ≥ 0 then (if 0 ≤ (wrap64 ((x332000_1.length : Int) - 1)) then (if (wrap64 ((x332000_1.length : Int) - 1)) < (x332000_1.length : Int) then (if ((rd_T40 x332000_1 (wrap64 ((x332000_1.length : Int) - 1))).f0).length < 2932031007402 then (impl_ParseProgram.l0 k1 a0 t332 (t332.length : Int) (wrap64 (x21_1 + 1)) (x332000_1.set ((wrap64 ((x332000_1.length : Int) - 1)) : Int).toNat (⟨(((rd_T40 x332000_1 (wrap64 ((x332000_1.length : Int) - 1))).f0) ++ [(⟨t342, t343, t344, (⟨t345, t346, t347⟩ : S31)⟩ : S35)]), (⟨(rd_T40 x332000_1 (wrap64 ((x332000_1.length : Int) - 1))).f1.f0, (rd_T40 x332000_1 (wrap64 ((x332000_1.length : Int) - 1))).f1.f1, (rd_T40 x332000_1 (wrap64 ((x332000_1.length : Int) - 1))).f1.f2⟩ : S31)⟩ : S40))) else (none)) else (none)) else (none)) else (impl_ParseProgram.l0 k1 a0 t332 (t332.length : Int) (wrap64 (x21_1 + 1)) x332000_1)) else (some (([] : List (S40)), wrap64 (x21_1 + 1)))) = some (r1, r2) := by rw [if_neg (show ¬ (false = true) by decide)] at H; exact H
      clear H
      have H := H1
      clear H1
      by_cases c37 : t348 = true
      ·subst c37
       have H1 : (if (wrap64 ((x332000_1.length : Int) - 1)) ≥ 0 then (if 0 ≤ (wrap64 ((x332000_1.length : Int) - 1)) then (if (wrap64 ((x332000_1.length : Int) - 1)) < (x332000_1.length : Int) then (if ((rd_T40 x332000_1 (wrap64 ((x332000_1.length : Int) - 1))).f0).length < 2932031007402 then (impl_ParseProgram.l0 k1 a0 t332 (t332.length : Int) (wrap64 (x21_1 + 1)) (x332000_1.set ((wrap64 ((x332000_1.length : Int) - 1)) : Int).toNat (⟨(((rd_T40 x332000_1 (wrap64 ((x332000_1.length : Int) - 1))).f0) ++ [(⟨t342, t343, t344, (⟨t345, t346, t347⟩ : S31)⟩ : S35)]), (⟨(rd_T40 x332000_1 (wrap64 ((x332000_1.length : Int) - 1))).f1.f0, (rd_T40 x332000_1 (wrap64 ((x332000_1.length : Int) - 1))).f1.f1, (rd_T40 x332000_1 (wrap64 ((x332000_1.length : Int) - 1))).f1.f2⟩ : S31)⟩ : S40))) else (none)) else (none)) else (none)) else (impl_ParseProgram.l0 k1 a0 t332 (t332.length : Int) (wrap64 (x21_1 + 1)) x332000_1)) = some (r1, r2) := by rw [if_pos rfl] at H; exact H
       clear H
       have H := H1
       clear H1
       by_cases c38 : (wrap64 ((x332000_1.length : Int) - 1)) ≥ 0
       ·rw [if_pos c38] at H
        have c38b0 : decide (0 ≤ (wrap64 ((x332000_1.length : Int) - 1))) = true := decide_eq_true c38
        clear c38
        obtain ⟨ji39, hji39⟩ : ∃ j_ : Int, (wrap64 ((x332000_1.length : Int) - 1)) = j_ := ⟨_, rfl⟩
        replace H : (if 0 ≤ (ji39) then (if (ji39) < (x332000_1.length : Int) then (if ((rd_T40 x332000_1 (ji39)).f0).length < 2932031007402 then (impl_ParseProgram.l0 k1 a0 t332 (t332.length : Int) (wrap64 (x21_1 + 1)) (x332000_1.set ((ji39) : Int).toNat (⟨(((rd_T40 x332000_1 (ji39)).f0) ++ [(⟨t342, t343, t344, (⟨t345, t346, t347⟩ : S31)⟩ : S35)]), (⟨(rd_T40 x332000_1 (ji39)).f1.f0, (rd_T40 x332000_1 (ji39)).f1.f1, (rd_T40 x332000_1 (ji39)).f1.f2⟩ : S31)⟩ : S40))) else (none)) else (none)) else (none)) = some (r1, r2) := by first | (rw [hji39] at H; exact H) | (simp only [hji39] at H ⊢; exact H)
        (try rw [hji39] at c38b0)
        (try rw [hji39] at A15)
        (try rw [hji39] at A16)
        have hji39w : (IntKind.i64.wrap ((x332000_1.length : Int) - 1)) = ji39 := (i64_w _).trans hji39
        by_cases c40 : 0 ≤ (ji39)
        ·rw [if_pos c40] at H
         have c40b0 : decide (0 ≤ (ji39)) = true := decide_eq_true c40
         clear c40
         by_cases c41 : (ji39) < (x332000_1.length : Int)
         ·rw [if_pos c41] at H
          have c41b0 : decide ((ji39) < (x332000_1.length : Int)) = true := decide_eq_true c41
          clear c41
          by_cases c42 : ((rd_T40 x332000_1 (ji39)).f0).length < 2932031007402
          ·rw [if_pos c42] at H
           have LMc42 := zM c42
           clear c42
           obtain ⟨y354, hyq⟩ : ∃ y_ : List (S35), y_ = (((rd_T40 x332000_1 (ji39)).f0) ++ [(⟨t342, t343, t344, (⟨t345, t346, t347⟩ : S31)⟩ : S35)]) := ⟨_, rfl⟩
           replace H : (impl_ParseProgram.l0 k1 a0 t332 (t332.length : Int) (wrap64 (x21_1 + 1)) (x332000_1.set ((ji39) : Int).toNat (⟨y354, (⟨(rd_T40 x332000_1 (ji39)).f1.f0, (rd_T40 x332000_1 (ji39)).f1.f1, (rd_T40 x332000_1 (ji39)).f1.f2⟩ : S31)⟩ : S40))) = some (r1, r2) := zh
           have Ny354 := zM hyq
           clear hyq
           obtain ⟨y357, hyq⟩ : ∃ y_ : List (S40), y_ = (x332000_1.set ((ji39) : Int).toNat (⟨y354, (⟨(rd_T40 x332000_1 (ji39)).f1.f0, (rd_T40 x332000_1 (ji39)).f1.f1, (rd_T40 x332000_1 (ji39)).f1.f2⟩ : S31)⟩ : S40)) := ⟨_, rfl⟩
           replace H : (impl_ParseProgram.l0 k1 a0 t332 (t332.length : Int) (wrap64 (x21_1 + 1)) y357) = some (r1, r2) := zh
           have Ny357 := zM hyq
           clear hyq
           have H' := zM H
           clear H
           have p336 : 0 ≤ (x21_1 : Int) := zd
           have q336 : x21_1 < (t332.length : Int) := zd
           obtain ⟨ad336, e336, hx336_0⟩ := Kd.at_string (z9 HO_19.out).2.2 x21_1 p336 q336
           cases e336
           replace p336 := eq_true p336
           replace q336 := eq_true q336
           try go_wp2_with (first | ((with_reducible refine gate_callee (f := 15) rfl ?_); refine goesL_ (some 28) rfl rfl Tryz.func15 (by kernel_rfl) rfl #[.string (rdOf ByteArray.empty t332 x21_1)] rfl zg ?_; (with_reducible refine (impl_parseTaskLine.calls k1 (rdOf ByteArray.empty t332 x21_1) t337 t338 t339 false _ A15.out).mono ?_); rintro e w44 ⟨rfl, hb⟩; refine ⟨_, rfl, ?_⟩; have n0_ := zM (ze (by (with_reducible repeat (first | apply zI | apply zJ | apply zK)); exact HO_19.out) hb); have n1_ := zM (Kd.S_below (by (with_reducible repeat (first | apply zU | apply zV | apply zW)); exact HO_332000.out) hb); have n2_ := zM (z7 (g := gb330) (o := .cells #[.slice none 0 0] 24 (0, 0)) zk hb); have n3_ := zM (z7 (g := gb331) (o := .cells #[u332000] 24 (0, 0)) zk hb); have n4_ := zM (zQ zb hb); clear HO_19; clear HO_332000; clear BK330; clear BK331; clear HB; have HO_19 := n0_; have HO_332000 := n1_; have BK330 := n2_; have BK331 := n3_; have HB := n4_; clear n0_ n1_ n2_ n3_ n4_; (try clear hb); (try clear hk)) | ((with_reducible refine gate_dst (N := 7) rfl ?_); refine box_event ?hg (N := 7) ?hd (cs := #[.int .i64 0, .int .i64 0, .int .i64 0]) (t := 31) ?hr ?_; (case hd => rfl); (case hg => rfl); (case hr => first | (go_simp; done) | (go_simp; rfl)); intro gb341 hg w45 hbox hb; have n0_ := zM (ze (by (with_reducible repeat (first | apply zI | apply zJ | apply zK)); exact HO_19.out) hb); have n1_ := zM (Kd.S_below (by (with_reducible repeat (first | apply zU | apply zV | apply zW)); exact HO_332000.out) hb); have n2_ := zM (z7 (g := gb330) (o := .cells #[.slice none 0 0] 24 (0, 0)) zk hb); have n3_ := zM (z7 (g := gb331) (o := .cells #[u332000] 24 (0, 0)) zk hb); have n4_ := zM (zQ zb hb); have n5_ := zM (hbox); have n6_ := zM ((by rw [hg]; exact (zR zb) : w.heap.size ≤ gb341)); have n7_ := zM ((by rw [hg]; exact (zR zb) : w.heap.size ≤ gb341)); have n8_ := zM ((by rw [hg]; exact Nat.ne_of_lt (blk_lt (g := gb330) (o := .cells #[.slice none 0 0] 24 (0, 0)) zk) : gb330 ≠ gb341)); have n9_ := zM ((by rw [hg]; exact Nat.ne_of_gt (blk_lt (g := gb330) (o := .cells #[.slice none 0 0] 24 (0, 0)) zk) : gb341 ≠ gb330)); have n10_ := zM ((by rw [hg]; exact Nat.ne_of_lt (blk_lt (g := gb331) (o := .cells #[u332000] 24 (0, 0)) zk) : gb331 ≠ gb341)); have n11_ := zM ((by rw [hg]; exact Nat.ne_of_gt (blk_lt (g := gb331) (o := .cells #[u332000] 24 (0, 0)) zk) : gb341 ≠ gb331)); clear HO_19; clear HO_332000; clear BK330; clear BK331; clear HB; have HO_19 := n0_; have HO_332000 := n1_; have BK330 := n2_; have BK331 := n3_; have HB := n4_; have BK341 := n5_; have GW341 := n6_; have GE341 := n7_; have NB330_341 := n8_; have NB341_330 := n9_; have NB331_341 := n10_; have NB341_331 := n11_; clear n0_ n1_ n2_ n3_ n4_ n5_ n6_ n7_ n8_ n9_ n10_ n11_; clear hb hbox hg; have hnb46 := NB341_330.out; have hnc46 := NB330_341.out; have hnb47 := NB341_331.out; have hnc47 := NB331_341.out; have hcz48_0 := (z5 BK341.out 0).trans rfl; have hcz48_1 := (z5 BK341.out 1).trans rfl; have hcz48_2 := (z5 BK341.out 2).trans rfl; have hfz48_0 := z6 BK341.out 0; have hfz48_1 := z6 BK341.out 1; have hfz48_2 := z6 BK341.out 2) | ((with_reducible refine gate_callee (f := 16) rfl ?_); refine goesL_ (some 33) rfl rfl Tryz.func16 (by kernel_rfl) rfl #[.string (rdOf ByteArray.empty t332 x21_1)] rfl zg ?_; (with_reducible refine (impl_parseStmt.calls k1 (rdOf ByteArray.empty t332 x21_1) t342 t343 t344 t345 t346 t347 true _ A16.out).mono ?_); rintro e w49 ⟨rfl, hb⟩; refine ⟨_, rfl, ?_⟩; have n0_ := zM (ze (by (with_reducible repeat (first | apply zI | apply zJ | apply zK)); exact (z1 (zc (p := ⟨gb341, 2, none⟩) (zc (p := ⟨gb341, 1, none⟩) (zc (p := ⟨gb341, 0, none⟩) (Kd.R_types HO_19.out BK341.out (by decide)) (fun _ hk => hk.2) (.int .i64 t337)) (fun _ hk => hk.2) (.int .i64 t338)) (fun _ hk => hk.2) (.int .i64 t339)) (fun _ h_ => h_.1))) hb); have n1_ := zM (Kd.S_below (by (with_reducible repeat (first | apply zU | apply zV | apply zW)); exact (Kd.S_mono (Kd.S_far (p := ⟨gb341, 2, none⟩) (Kd.S_far (p := ⟨gb341, 1, none⟩) (Kd.S_far (p := ⟨gb341, 0, none⟩) (Kd.S_types HO_332000.out BK341.out (by decide)) (fun _ hk => hk.2) (.int .i64 t337)) (fun _ hk => hk.2) (.int .i64 t338)) (fun _ hk => hk.2) (.int .i64 t339)) (fun _ h_ => h_.1))) hb); have n2_ := zM (z7 (g := gb330) (o := .cells #[.slice none 0 0] 24 (0, 0)) (zl NB330_341.out BK330.out) hb); have n3_ := zM (z7 (g := gb331) (o := .cells #[u332000] 24 (0, 0)) (zl NB331_341.out BK331.out) hb); have n4_ := zM (z7 (g := gb341) (o := .cells #[.int .i64 t337, .int .i64 t338, .int .i64 t339] 31 (0, 0)) (by (with_reducible repeat (first | refine zN ?_ _ | refine zO ?_ | refine zP ?_ _)); refine blk_put (cs := #[.int .i64 t337, .int .i64 t338, .int .i64 0]) ?_ 2 _ rfl; (with_reducible repeat (first | refine zN ?_ _ | refine zO ?_ | refine zP ?_ _)); refine blk_put (cs := #[.int .i64 t337, .int .i64 0, .int .i64 0]) ?_ 1 _ rfl; (with_reducible repeat (first | refine zN ?_ _ | refine zO ?_ | refine zP ?_ _)); refine blk_put (cs := #[.int .i64 0, .int .i64 0, .int .i64 0]) ?_ 0 _ rfl; (with_reducible repeat (first | refine zN ?_ _ | refine zO ?_ | refine zP ?_ _)); exact BK341.out) hb); have n5_ := zM (zQ zb hb); clear HO_19; clear HO_332000; clear BK330; clear BK331; clear BK341; clear HB; have HO_19 := n0_; have HO_332000 := n1_; have BK330 := n2_; have BK331 := n3_; have BK341 := n4_; have HB := n5_; clear n0_ n1_ n2_ n3_ n4_ n5_; (try clear hb); (try clear hk)) | ((with_reducible refine gate_dst (N := 9) rfl ?_); refine box_event ?hg (N := 9) ?hd (cs := #[.int .i64 0, .int .i64 0, .int .i64 0, .int .i64 0, .int .i64 0, .int .i64 0]) (t := 35) ?hr ?_; (case hd => rfl); (case hg => rfl); (case hr => first | (go_simp; done) | (go_simp; rfl)); intro gb349 hg w50 hbox hb; have n0_ := zM (ze (by (with_reducible repeat (first | apply zI | apply zJ | apply zK)); exact HO_19.out) hb); have n1_ := zM (Kd.S_below (Kd.S_elderB (by (with_reducible repeat (first | apply zU | apply zV | apply zW)); exact HO_332000.out) gb349 (Nat.le_of_eq hg.symm)) hb); have n2_ := zM (z7 (g := gb330) (o := .cells #[.slice none 0 0] 24 (0, 0)) zk hb); have n3_ := zM (z7 (g := gb331) (o := .cells #[u332000] 24 (0, 0)) zk hb); have n4_ := zM (z7 (g := gb341) (o := .cells #[.int .i64 t337, .int .i64 t338, .int .i64 t339] 31 (0, 0)) zk hb); have n5_ := zM (zQ zb hb); have n6_ := zM (hbox); have n7_ := zM ((by rw [hg]; exact (zR zb) : w.heap.size ≤ gb349)); have n8_ := zM ((by rw [hg]; exact (zR zb) : w.heap.size ≤ gb349)); have n9_ := zM ((by rw [hg]; exact Nat.ne_of_lt (blk_lt (g := gb330) (o := .cells #[.slice none 0 0] 24 (0, 0)) zk) : gb330 ≠ gb349)); have n10_ := zM ((by rw [hg]; exact Nat.ne_of_gt (blk_lt (g := gb330) (o := .cells #[.slice none 0 0] 24 (0, 0)) zk) : gb349 ≠ gb330)); have n11_ := zM ((by rw [hg]; exact Nat.ne_of_lt (blk_lt (g := gb331) (o := .cells #[u332000] 24 (0, 0)) zk) : gb331 ≠ gb349)); have n12_ := zM ((by rw [hg]; exact Nat.ne_of_gt (blk_lt (g := gb331) (o := .cells #[u332000] 24 (0, 0)) zk) : gb349 ≠ gb331)); have n13_ := zM ((by rw [hg]; exact Nat.ne_of_lt (blk_lt (g := gb341) (o := .cells #[.int .i64 t337, .int .i64 t338, .int .i64 t339] 31 (0, 0)) zk) : gb341 ≠ gb349)); have n14_ := zM ((by rw [hg]; exact Nat.ne_of_gt (blk_lt (g := gb341) (o := .cells #[.int .i64 t337, .int .i64 t338, .int .i64 t339] 31 (0, 0)) zk) : gb349 ≠ gb341)); clear HO_19; clear HO_332000; clear BK330; clear BK331; clear BK341; clear HB; have HO_19 := n0_; have HO_332000 := n1_; have BK330 := n2_; have BK331 := n3_; have BK341 := n4_; have HB := n5_; have BK349 := n6_; have GW349 := n7_; have GE349 := n8_; have NB330_349 := n9_; have NB349_330 := n10_; have NB331_349 := n11_; have NB349_331 := n12_; have NB341_349 := n13_; have NB349_341 := n14_; clear n0_ n1_ n2_ n3_ n4_ n5_ n6_ n7_ n8_ n9_ n10_ n11_ n12_ n13_ n14_; clear hb hbox hg; have hnb51 := NB349_330.out; have hnc51 := NB330_349.out; have hnb52 := NB349_331.out; have hnc52 := NB331_349.out; have hnb53 := NB349_341.out; have hnc53 := NB341_349.out; have hcz54_0 := (z5 BK349.out 0).trans rfl; have hcz54_1 := (z5 BK349.out 1).trans rfl; have hcz54_2 := (z5 BK349.out 2).trans rfl; have hcz54_3 := (z5 BK349.out 3).trans rfl; have hcz54_4 := (z5 BK349.out 4).trans rfl; have hcz54_5 := (z5 BK349.out 5).trans rfl; have hfz54_0 := z6 BK349.out 0; have hfz54_1 := z6 BK349.out 1; have hfz54_2 := z6 BK349.out 2; have hfz54_3 := z6 BK349.out 3; have hfz54_4 := z6 BK349.out 4; have hfz54_5 := z6 BK349.out 5; have hnb55 := NB331_330.out; have hnc55 := NB330_331.out; have hcz56_0 := (z5 BK331.out 0).trans rfl; have hfz56_0 := z6 BK331.out 0; obtain ⟨Ao57, co57, eo57⟩ := Kd.S_slice HO_332000.out; subst eo57))
           have n0_ : Aside0 (Kd.R Kd.string 9 ((((((w50.setCell ⟨gb349, 0, none⟩ (.int .i64 t342)).setCell ⟨gb349, 1, none⟩ (.int .i64 t343)).setCell ⟨gb349, 2, none⟩ (.int .i64 t344)).setCell ⟨gb349, 3, none⟩ (.int .i64 t345)).setCell ⟨gb349, 4, none⟩ (.int .i64 t346)).setCell ⟨gb349, 5, none⟩ (.int .i64 t347)) w.heap.size (fun _ => True) (.slice (some ad336) t332.length co11) t332) := ⟨by (with_reducible repeat (first | apply zI | apply zJ | apply zK)); exact z1 (zc (p := ⟨gb349, 5, none⟩) (zc (p := ⟨gb349, 4, none⟩) (zc (p := ⟨gb349, 3, none⟩) (zc (p := ⟨gb349, 2, none⟩) (zc (p := ⟨gb349, 1, none⟩) (zc (p := ⟨gb349, 0, none⟩) (Kd.R_types HO_19.out BK349.out (by decide)) (fun _ hk => hk.2) (.int .i64 t342)) (fun _ hk => hk.2) (.int .i64 t343)) (fun _ hk => hk.2) (.int .i64 t344)) (fun _ hk => hk.2) (.int .i64 t345)) (fun _ hk => hk.2) (.int .i64 t346)) (fun _ hk => hk.2) (.int .i64 t347)) (fun _ hk => trivial)⟩
           have n1_ : Aside0 (Kd.S k40 40 ((((((w50.setCell ⟨gb349, 0, none⟩ (.int .i64 t342)).setCell ⟨gb349, 1, none⟩ (.int .i64 t343)).setCell ⟨gb349, 2, none⟩ (.int .i64 t344)).setCell ⟨gb349, 3, none⟩ (.int .i64 t345)).setCell ⟨gb349, 4, none⟩ (.int .i64 t346)).setCell ⟨gb349, 5, none⟩ (.int .i64 t347)) w.heap.size (fun k_ => k_ ≠ gb349) (.slice Ao57 x332000_1.length co57) x332000_1) := ⟨by (with_reducible repeat (first | apply zU | apply zV | apply zW)); exact Kd.S_mono (Kd.S_far (p := ⟨gb349, 5, none⟩) (Kd.S_far (p := ⟨gb349, 4, none⟩) (Kd.S_far (p := ⟨gb349, 3, none⟩) (Kd.S_far (p := ⟨gb349, 2, none⟩) (Kd.S_far (p := ⟨gb349, 1, none⟩) (Kd.S_far (p := ⟨gb349, 0, none⟩) (Kd.S_mono HO_332000.out (fun k_ hk => (⟨hk, hk.2⟩ : _ ∧ k_ ≠ gb349))) (fun _ hk => hk.2) (.int .i64 t342)) (fun _ hk => hk.2) (.int .i64 t343)) (fun _ hk => hk.2) (.int .i64 t344)) (fun _ hk => hk.2) (.int .i64 t345)) (fun _ hk => hk.2) (.int .i64 t346)) (fun _ hk => hk.2) (.int .i64 t347)) (fun _ hk => hk.1.2)⟩
           have n2_ : Aside0 (((((((w50.setCell ⟨gb349, 0, none⟩ (.int .i64 t342)).setCell ⟨gb349, 1, none⟩ (.int .i64 t343)).setCell ⟨gb349, 2, none⟩ (.int .i64 t344)).setCell ⟨gb349, 3, none⟩ (.int .i64 t345)).setCell ⟨gb349, 4, none⟩ (.int .i64 t346)).setCell ⟨gb349, 5, none⟩ (.int .i64 t347)).heap[gb330]? = some (.cells #[.slice none 0 0] 24 (0, 0))) := ⟨zl NB330_349.out BK330.out⟩
           have n3_ : Aside0 (((((((w50.setCell ⟨gb349, 0, none⟩ (.int .i64 t342)).setCell ⟨gb349, 1, none⟩ (.int .i64 t343)).setCell ⟨gb349, 2, none⟩ (.int .i64 t344)).setCell ⟨gb349, 3, none⟩ (.int .i64 t345)).setCell ⟨gb349, 4, none⟩ (.int .i64 t346)).setCell ⟨gb349, 5, none⟩ (.int .i64 t347)).heap[gb331]? = some (.cells #[.slice Ao57 x332000_1.length co57] 24 (0, 0))) := ⟨zl NB331_349.out BK331.out⟩
           have n4_ : Aside0 (((((((w50.setCell ⟨gb349, 0, none⟩ (.int .i64 t342)).setCell ⟨gb349, 1, none⟩ (.int .i64 t343)).setCell ⟨gb349, 2, none⟩ (.int .i64 t344)).setCell ⟨gb349, 3, none⟩ (.int .i64 t345)).setCell ⟨gb349, 4, none⟩ (.int .i64 t346)).setCell ⟨gb349, 5, none⟩ (.int .i64 t347)).heap[gb341]? = some (.cells #[.int .i64 t337, .int .i64 t338, .int .i64 t339] 31 (0, 0))) := ⟨zl NB341_349.out BK341.out⟩
           have n5_ : Aside0 (((((((w50.setCell ⟨gb349, 0, none⟩ (.int .i64 t342)).setCell ⟨gb349, 1, none⟩ (.int .i64 t343)).setCell ⟨gb349, 2, none⟩ (.int .i64 t344)).setCell ⟨gb349, 3, none⟩ (.int .i64 t345)).setCell ⟨gb349, 4, none⟩ (.int .i64 t346)).setCell ⟨gb349, 5, none⟩ (.int .i64 t347)).heap[gb349]? = some (.cells #[.int .i64 t342, .int .i64 t343, .int .i64 t344, .int .i64 t345, .int .i64 t346, .int .i64 t347] 35 (0, 0))) := ⟨by (with_reducible repeat (first | refine zN ?_ _ | refine zO ?_ | refine zP ?_ _)); refine blk_put (cs := #[.int .i64 t342, .int .i64 t343, .int .i64 t344, .int .i64 t345, .int .i64 t346, .int .i64 0]) ?_ 5 _ rfl; (with_reducible repeat (first | refine zN ?_ _ | refine zO ?_ | refine zP ?_ _)); refine blk_put (cs := #[.int .i64 t342, .int .i64 t343, .int .i64 t344, .int .i64 t345, .int .i64 0, .int .i64 0]) ?_ 4 _ rfl; (with_reducible repeat (first | refine zN ?_ _ | refine zO ?_ | refine zP ?_ _)); refine blk_put (cs := #[.int .i64 t342, .int .i64 t343, .int .i64 t344, .int .i64 0, .int .i64 0, .int .i64 0]) ?_ 3 _ rfl; (with_reducible repeat (first | refine zN ?_ _ | refine zO ?_ | refine zP ?_ _)); refine blk_put (cs := #[.int .i64 t342, .int .i64 t343, .int .i64 0, .int .i64 0, .int .i64 0, .int .i64 0]) ?_ 2 _ rfl; (with_reducible repeat (first | refine zN ?_ _ | refine zO ?_ | refine zP ?_ _)); refine blk_put (cs := #[.int .i64 t342, .int .i64 0, .int .i64 0, .int .i64 0, .int .i64 0, .int .i64 0]) ?_ 1 _ rfl; (with_reducible repeat (first | refine zN ?_ _ | refine zO ?_ | refine zP ?_ _)); refine blk_put (cs := #[.int .i64 0, .int .i64 0, .int .i64 0, .int .i64 0, .int .i64 0, .int .i64 0]) ?_ 0 _ rfl; (with_reducible repeat (first | refine zN ?_ _ | refine zO ?_ | refine zP ?_ _)); exact BK349.out⟩
           have n6_ : Aside0 (Below w.heap.size w ((((((w50.setCell ⟨gb349, 0, none⟩ (.int .i64 t342)).setCell ⟨gb349, 1, none⟩ (.int .i64 t343)).setCell ⟨gb349, 2, none⟩ (.int .i64 t344)).setCell ⟨gb349, 3, none⟩ (.int .i64 t345)).setCell ⟨gb349, 4, none⟩ (.int .i64 t346)).setCell ⟨gb349, 5, none⟩ (.int .i64 t347))) := ⟨zb⟩
           (try clear HO_19)
           (try clear HO_332000)
           (try clear BK330)
           (try clear BK331)
           (try clear BK341)
           (try clear BK349)
           (try clear HB)
           generalize ((((((w50.setCell ⟨gb349, 0, none⟩ (.int .i64 t342)).setCell ⟨gb349, 1, none⟩ (.int .i64 t343)).setCell ⟨gb349, 2, none⟩ (.int .i64 t344)).setCell ⟨gb349, 3, none⟩ (.int .i64 t345)).setCell ⟨gb349, 4, none⟩ (.int .i64 t346)).setCell ⟨gb349, 5, none⟩ (.int .i64 t347)) = w58 at n0_ n1_ n2_ n3_ n4_ n5_ n6_ ⊢
           have HO_19 := n0_
           have HO_332000 := n1_
           have BK330 := n2_
           have BK331 := n3_
           have BK341 := n4_
           have BK349 := n5_
           have HB := n6_
           clear n0_ n1_ n2_ n3_ n4_ n5_ n6_
           have n0_ := zM (zK HO_19.out)
           have n1_ := zM (zW HO_332000.out)
           have n2_ := zM (zO BK330.out)
           have n3_ := zM (zO BK331.out)
           have n4_ := zM (zO BK341.out)
           have n5_ := zM (zO BK349.out)
           have n6_ := zM (z4 HB.out)
           clear HO_19
           clear HO_332000
           clear BK330
           clear BK331
           clear BK341
           clear BK349
           clear HB
           have HO_19 := n0_
           have HO_332000 := n1_
           have BK330 := n2_
           have BK331 := n3_
           have BK341 := n4_
           have BK349 := n5_
           have HB := n6_
           clear n0_ n1_ n2_ n3_ n4_ n5_ n6_
           have p353 : 0 ≤ ((ji39) : Int) := zd
           have q353 : (ji39) < (x332000_1.length : Int) := zd
           obtain ⟨ad353, A353_0, c353_0, e353, hx353_0, hx353_1, hx353_2, hx353_3, hl353_0, hi353_0⟩ := at_T40 (Kd.S_reads' HO_332000.out).2.2 (ji39) p353 q353
           cases e353
           obtain ⟨ce353, hce353, hMe353, hcc353⟩ := Kd.S_get HO_332000.out z40 (ji39) p353 (by first | exact q353 | exact zd | (have e_ := (Kd.S_reads' HO_332000.out).1; omega))
           obtain ⟨ve353_0, rfl, ge353_0⟩ := k40_openM hMe353
           have hv353_0 := hcc353 0 _ rfl
           rw [Nat.add_zero] at hv353_0
           replace hv353_0 := Option.some.inj (hv353_0.symm.trans hx353_0)
           rw [hv353_0] at ge353_0
           have HL353_0 := zM (show Kd.R k35 35 _ _ _ _ ((rd_T40 x332000_1 (ji39)).f0) from ge353_0)
           clear hv353_0 ge353_0
           have HX353_0 := zM hx353_0
           clear hcc353 hce353
           have HR353_0 := zM hi353_0
           have HC353_0 := zM hl353_0
           clear hi353_0 hl353_0
           replace p353 := eq_true p353
           replace q353 := eq_true q353
           obtain ⟨go60, co60, eo60, gb60, gl60, cl60, HG60⟩ := Kd.S_form HO_332000.out (by have h_ : ((ji39) : Int) < ((x332000_1.length : Int) : Int) := zd; have h2_ : 0 ≤ ((ji39) : Int) := (zd); omega)
           (first | cases eo60 | (injection eo60 with ea_ en_ ec_; (first | subst ea_ | (injection ea_ with ea_; subst ea_)); subst ec_; clear en_))
           have GB60 := zM gb60
           have GG60 := zM HG60
           clear gb60 gl60 HG60
           (first | simp only [add_plain] at hx353_0 | skip)
           (first | simp only [add_plain] at hx353_1 | skip)
           (first | simp only [add_plain] at hx353_2 | skip)
           (first | simp only [add_plain] at hx353_3 | skip)
           obtain ⟨oki60, ce60, hcl60, hM60, hcc60, _, _, hH60⟩ := Kd.S_elem HO_332000.out z40 ((ji39) : Int) (zd) (by have h_ : ((ji39) : Int) < ((x332000_1.length : Int) : Int) := zd; first | exact h_ | (have e_ := (Kd.S_reads' HO_332000.out).1; omega) | simpa using h_)
           obtain ⟨ve60_0, rfl, ge60_0⟩ := k40_openM hM60
           have hv60 := hcc60 0 _ rfl
           have hX60 := HX353_0.out
           (try simp only [add_plain] at hX60)
           (try simp only [Nat.add_zero] at hv60)
           replace hv60 := Option.some.inj (hv60.symm.trans hX60)
           subst hv60
           clear hX60 hcc60 hcl60
           have UU60 := zM (show Kd.R k35 35 _ w.heap.size oki60 (.slice A353_0 ((rd_T40 x332000_1 (ji39)).f0).length c353_0) ((rd_T40 x332000_1 (ji39)).f0) from ge60_0)
           have HH60 := zM hH60
           have HN60 := zM (Kd.S_reads' HO_332000.out).1
           clear hH60 ge60_0
           refine start_ (n := 15) (S := fun w' => w'.cell? ⟨gb331, 0, none⟩ = some (.slice (some ⟨go60, 0, none⟩) x332000_1.length co57) ∧ w'.cell? ⟨gb349, 0, none⟩ = some (.int .i64 t342) ∧ w'.cell? ⟨gb349, 1, none⟩ = some (.int .i64 t343) ∧ w'.cell? ⟨gb349, 2, none⟩ = some (.int .i64 t344) ∧ w'.cell? ⟨gb349, 3, none⟩ = some (.int .i64 t345) ∧ w'.cell? ⟨gb349, 4, none⟩ = some (.int .i64 t346) ∧ w'.cell? ⟨gb349, 5, none⟩ = some (.int .i64 t347) ∧ w'.cell? ⟨go60, (((ji39)).toNat * 4), none⟩ = some (.slice A353_0 ((rd_T40 x332000_1 (ji39)).f0).length c353_0) ∧ w'.cell? ⟨go60, (((ji39)).toNat * 4) + 1, none⟩ = some (.int .i64 ((rd_T40 x332000_1 (ji39)).f1.f0)) ∧ w'.cell? ⟨go60, (((ji39)).toNat * 4) + 2, none⟩ = some (.int .i64 ((rd_T40 x332000_1 (ji39)).f1.f1)) ∧ w'.cell? ⟨go60, (((ji39)).toNat * 4) + 3, none⟩ = some (.int .i64 ((rd_T40 x332000_1 (ji39)).f1.f2))) (ds := [14]) #[false, false, false, false, false, false, false, false, false, false, false, false, false, false, false] (by kernel_rfl) rfl rfl ⟨(z5 BK331.out 0).trans rfl, (z5 BK349.out 0).trans rfl, (z5 BK349.out 1).trans rfl, (z5 BK349.out 2).trans rfl, (z5 BK349.out 3).trans rfl, (z5 BK349.out 4).trans rfl, (z5 BK349.out 5).trans rfl, hx353_0, hx353_1, hx353_2, hx353_3⟩ (fun hHeld => ?_); refine with_tabW impl_ParseProgram.tab15 impl_ParseProgram.bits15 (fun HT_ HW_ => ?_)
           generalize w58.drew = w59 at HO_19 HO_332000 BK330 BK331 BK341 BK349 HB GG60 HH60 HL353_0 HR353_0 HX353_0 UU60 hx353_0 hx353_1 hx353_2 hx353_3 hHeld ⊢
           refine pure_ (i := 0) (N := some 58) (v := ?_) (a' := ?_) #[true, false, false, false, false, false, false, false, false, false, false, false, false, false, false] rfl rfl (any_of HT_.out (by kernel_rfl)) (fun _ _ _ h => h) (Or.inl ⟨by rfl, ?_⟩) ?_ ?_
           rotate_left
           ·intro w'
            go_simp
            with_reducible rfl
           rotate_left
           ·exact zu
           refine pure_ (i := 2) (N := some 60) (v := ?_) (a' := ?_) #[true, false, true, false, false, false, false, false, false, false, false, false, false, false, false] rfl rfl (any_of HT_.out (by kernel_rfl)) (fun _ _ _ h => h) (Or.inl ⟨by rfl, ?_⟩) ?_ ?_
           rotate_left
           ·intro w'
            go_simp
            with_reducible rfl
           rotate_left
           ·exact zu
           refine pure_ (i := 3) (N := some 61) (v := ?_) (a' := ?_) #[true, false, true, true, false, false, false, false, false, false, false, false, false, false, false] rfl rfl (any_of HT_.out (by kernel_rfl)) (fun _ _ _ h => h) (Or.inl ⟨by rfl, ?_⟩) ?_ ?_
           rotate_left
           ·intro w'
            go_simp
            with_reducible rfl
           rotate_left
           ·exact zu
           refine pure_ (i := 5) (N := some 63) (v := ?_) (a' := ?_) #[true, false, true, true, false, true, false, false, false, false, false, false, false, false, false] rfl rfl (any_of HT_.out (by kernel_rfl)) (fun _ _ _ h => h) (Or.inl ⟨by rfl, ?_⟩) ?_ ?_
           rotate_left
           ·intro w'
            go_simp
            with_reducible rfl
           rotate_left
           ·exact zu
           refine take_ (i := 1) (N := some 59) (v := ?_) (a' := ?_) #[true, true, true, true, false, true, false, false, false, false, false, false, false, false, false] rfl rfl (take_ofW HT_.out HW_.out (by kernel_rfl)) (fun _ _ _ h => h) (Or.inl ⟨by rfl, ?_⟩) hHeld ?_ ?_
           rotate_left
           ·rintro w' ⟨s0, s1, s2, s3, s4, s5, s6, s7, s8, s9, s10⟩
            go_simp
            with_reducible rfl
           rotate_left
           ·exact zu
           refine take_ (i := 4) (N := some 62) (v := ?_) (a' := ?_) #[true, true, true, true, true, true, false, false, false, false, false, false, false, false, false] rfl rfl (take_ofW HT_.out HW_.out (by kernel_rfl)) (fun _ _ _ h => h) (Or.inl ⟨by rfl, ?_⟩) hHeld ?_ ?_
           rotate_left
           ·rintro w' ⟨s0, s1, s2, s3, s4, s5, s6, s7, s8, s9, s10⟩
            go_simp
            with_reducible rfl
           rotate_left
           ·exact zu
           refine pure_ (i := 6) (N := some 64) (v := ?_) (a' := ?_) #[true, true, true, true, true, true, true, false, false, false, false, false, false, false, false] rfl rfl (any_of HT_.out (by kernel_rfl)) (fun _ _ _ h => h) (Or.inl ⟨by rfl, ?_⟩) ?_ ?_
           rotate_left
           ·intro w'
            go_simp
            with_reducible rfl
           rotate_left
           ·exact zu
           refine pure_ (i := 7) (N := some 65) (v := ?_) (a' := ?_) #[true, true, true, true, true, true, true, true, false, false, false, false, false, false, false] rfl rfl (any_of HT_.out (by kernel_rfl)) (fun _ _ _ h => h) (Or.inl ⟨by rfl, ?_⟩) ?_ ?_
           rotate_left
           ·intro w'
            go_simp
            with_reducible rfl
           rotate_left
           ·exact zu
           refine take_ (i := 8) (N := some 66) (v := ?_) (a' := ?_) #[true, true, true, true, true, true, true, true, true, false, false, false, false, false, false] rfl rfl (take_ofW HT_.out HW_.out (by kernel_rfl)) (fun _ _ _ h => h) (Or.inl ⟨by rfl, ?_⟩) hHeld ?_ ?_
           rotate_left
           ·rintro w' ⟨s0, s1, s2, s3, s4, s5, s6, s7, s8, s9, s10⟩
            go_simp
            with_reducible rfl
           rotate_left
           ·exact zu
           refine take_ (i := 9) (N := some 67) (v := ?_) (a' := ?_) #[true, true, true, true, true, true, true, true, true, true, false, false, false, false, false] rfl rfl (take_ofW HT_.out HW_.out (by kernel_rfl)) (fun _ _ _ h => h) (Or.inl ⟨by rfl, ?_⟩) hHeld ?_ ?_
           rotate_left
           ·rintro w' ⟨s0, s1, s2, s3, s4, s5, s6, s7, s8, s9, s10⟩
            go_simp
            with_reducible rfl
           rotate_left
           ·exact zu
           refine one_ (i := 10) (N := some 68) #[true, true, true, true, true, true, true, true, true, true, true, false, false, false, false] rfl rfl (one_of HT_.out (by kernel_rfl)) (by decide) (fun K hK => ?_)
           refine value_ (w1 := ?_) (v := ?_) (by rfl) rfl ?_ ?_
           rotate_left 2
           ·go_simp
            constructor
            ·rfl
            rfl
           refine hK.out _ _ ⟨(z5 (zP BK331.out _) 0).trans rfl, (z5 (zP BK349.out _) 0).trans rfl, (z5 (zP BK349.out _) 1).trans rfl, (z5 (zP BK349.out _) 2).trans rfl, (z5 (zP BK349.out _) 3).trans rfl, (z5 (zP BK349.out _) 4).trans rfl, (z5 (zP BK349.out _) 5).trans rfl, (World.cell?_alloc_lt _ _ _ (zm _ _ (hHeld.2.2.2.2.2.2.2.1))).trans (hHeld.2.2.2.2.2.2.2.1), (World.cell?_alloc_lt _ _ _ (zm _ _ (hHeld.2.2.2.2.2.2.2.2.1))).trans (hHeld.2.2.2.2.2.2.2.2.1), (World.cell?_alloc_lt _ _ _ (zm _ _ (hHeld.2.2.2.2.2.2.2.2.2.1))).trans (hHeld.2.2.2.2.2.2.2.2.2.1), (World.cell?_alloc_lt _ _ _ (zm _ _ (hHeld.2.2.2.2.2.2.2.2.2.2))).trans (hHeld.2.2.2.2.2.2.2.2.2.2)⟩ (fun hHeld => ?_)
           clear hK K
           refine norm_ (a' := ?_) ?_ ?_
           rotate_left
           ·show Act.put _ (some 68) _ = _
            exact zu
           refine one_ (i := 11) (N := some 69) #[true, true, true, true, true, true, true, true, true, true, true, true, false, false, false] rfl rfl (one_of HT_.out (by kernel_rfl)) (by decide) (fun K hK => ?_)
           refine Kd.R_append_step k35 (w0 := w) w.heap.size (by rfl) (.tmp 66) (.tmp 68) 38 35 (.agg #[(.int .i64 0), (.int .i64 0), (.int .i64 0), (.int .i64 0), (.int .i64 0), (.int .i64 0)]) 48 rfl Tryz.underlying38 info35 rfl (by decide) (by omega) (.slice A353_0 ((rd_T40 x332000_1 (ji39)).f0).length c353_0) ((rd_T40 x332000_1 (ji39)).f0) (⟨t342, t343, t344, (⟨t345, t346, t347⟩ : S31)⟩ : S35) [.int .i64 t342, .int .i64 t343, .int .i64 t344, .int .i64 t345, .int .i64 t346, .int .i64 t347] (fun k_ => oki60 k_ ∨ ((fun k_ => k_ ≠ gb349)) k_ ∧ w59.heap.size ≤ k_) (fun _ => False) rfl rfl ?aP (fun _ hk => hk.elim) ?aF ?aO ?aB ?aS ?aL ?_
           (case aP => exact k35_mkM _ _ _ (⟨t342, t343, t344, (⟨t345, t346, t347⟩ : S31)⟩ : S35))
           (case aB => exact zb)
           (case aF => exact (fun k_ hk => .inr ⟨Kd.freshB (g := gb349) (o := .cells #[.int .i64 t342, .int .i64 t343, .int .i64 t344, .int .i64 t345, .int .i64 t346, .int .i64 t347] 35 (0, 0)) zk k_ hk, hk⟩))
           (case aO => exact (by (with_reducible repeat (first | apply zI | apply zJ | apply zK)); exact z1 UU60.out (fun _ hk => .inl hk)))
           (case aS => exact (zR zb))
           (case aL => have := LMc42.out; omega)
           intro v355 w61 ho hb hg hat
           (first | have HS7_ := cell_grown hg (hHeld.2.2.2.2.2.2.2.1) (by first | (rw [add_block]; exact (fun e_ => ((HL353_0.out.1 _ e_.symm).2) rfl)) | (show some (Addr.add _ _).block ≠ _; rw [add_block]; exact (fun e_ => ((HL353_0.out.1 _ e_.symm).2) rfl)) | exact (fun e_ => ((HL353_0.out.1 _ e_.symm).2) rfl)) | have HS7_ := cell_grown hg (cell_unalloc (hHeld.2.2.2.2.2.2.2.1) (by first | (rw [add_block]; exact Kd.S_lt HO_332000.out _ rfl) | (show (Addr.add _ _).block < _; rw [add_block]; exact Kd.S_lt HO_332000.out _ rfl) | exact Kd.S_lt HO_332000.out _ rfl)) (by first | (rw [add_block]; exact (fun e_ => ((HL353_0.out.1 _ e_.symm).2) rfl)) | (show some (Addr.add _ _).block ≠ _; rw [add_block]; exact (fun e_ => ((HL353_0.out.1 _ e_.symm).2) rfl)) | exact (fun e_ => ((HL353_0.out.1 _ e_.symm).2) rfl)))
           (first | have HS8_ := cell_grown hg (hHeld.2.2.2.2.2.2.2.2.1) (by first | (rw [add_block]; exact (fun e_ => ((HL353_0.out.1 _ e_.symm).2) rfl)) | (show some (Addr.add _ _).block ≠ _; rw [add_block]; exact (fun e_ => ((HL353_0.out.1 _ e_.symm).2) rfl)) | exact (fun e_ => ((HL353_0.out.1 _ e_.symm).2) rfl)) | have HS8_ := cell_grown hg (cell_unalloc (hHeld.2.2.2.2.2.2.2.2.1) (by first | (rw [add_block]; exact Kd.S_lt HO_332000.out _ rfl) | (show (Addr.add _ _).block < _; rw [add_block]; exact Kd.S_lt HO_332000.out _ rfl) | exact Kd.S_lt HO_332000.out _ rfl)) (by first | (rw [add_block]; exact (fun e_ => ((HL353_0.out.1 _ e_.symm).2) rfl)) | (show some (Addr.add _ _).block ≠ _; rw [add_block]; exact (fun e_ => ((HL353_0.out.1 _ e_.symm).2) rfl)) | exact (fun e_ => ((HL353_0.out.1 _ e_.symm).2) rfl)))
           (first | have HS9_ := cell_grown hg (hHeld.2.2.2.2.2.2.2.2.2.1) (by first | (rw [add_block]; exact (fun e_ => ((HL353_0.out.1 _ e_.symm).2) rfl)) | (show some (Addr.add _ _).block ≠ _; rw [add_block]; exact (fun e_ => ((HL353_0.out.1 _ e_.symm).2) rfl)) | exact (fun e_ => ((HL353_0.out.1 _ e_.symm).2) rfl)) | have HS9_ := cell_grown hg (cell_unalloc (hHeld.2.2.2.2.2.2.2.2.2.1) (by first | (rw [add_block]; exact Kd.S_lt HO_332000.out _ rfl) | (show (Addr.add _ _).block < _; rw [add_block]; exact Kd.S_lt HO_332000.out _ rfl) | exact Kd.S_lt HO_332000.out _ rfl)) (by first | (rw [add_block]; exact (fun e_ => ((HL353_0.out.1 _ e_.symm).2) rfl)) | (show some (Addr.add _ _).block ≠ _; rw [add_block]; exact (fun e_ => ((HL353_0.out.1 _ e_.symm).2) rfl)) | exact (fun e_ => ((HL353_0.out.1 _ e_.symm).2) rfl)))
           (first | have HS10_ := cell_grown hg (hHeld.2.2.2.2.2.2.2.2.2.2) (by first | (rw [add_block]; exact (fun e_ => ((HL353_0.out.1 _ e_.symm).2) rfl)) | (show some (Addr.add _ _).block ≠ _; rw [add_block]; exact (fun e_ => ((HL353_0.out.1 _ e_.symm).2) rfl)) | exact (fun e_ => ((HL353_0.out.1 _ e_.symm).2) rfl)) | have HS10_ := cell_grown hg (cell_unalloc (hHeld.2.2.2.2.2.2.2.2.2.2) (by first | (rw [add_block]; exact Kd.S_lt HO_332000.out _ rfl) | (show (Addr.add _ _).block < _; rw [add_block]; exact Kd.S_lt HO_332000.out _ rfl) | exact Kd.S_lt HO_332000.out _ rfl)) (by first | (rw [add_block]; exact (fun e_ => ((HL353_0.out.1 _ e_.symm).2) rfl)) | (show some (Addr.add _ _).block ≠ _; rw [add_block]; exact (fun e_ => ((HL353_0.out.1 _ e_.symm).2) rfl)) | exact (fun e_ => ((HL353_0.out.1 _ e_.symm).2) rfl)))
           rw [← Ny354.out] at ho
           have n0_ := zM (Kd.R_over' (v := (.slice A353_0 ((rd_T40 x332000_1 (ji39)).f0).length c353_0)) (by (with_reducible repeat (first | apply zI | apply zJ | apply zK)); exact HO_19.out) (Kd.R_typed HL353_0.out) (by decide) hg)
           have n1_ := zM (blk_grown (g := gb330) (o := .cells #[.slice none 0 0] 24 (0, 0)) zk hg (Kd.R_ne HL353_0.out BK330.out (by decide)))
           have n2_ := zM (blk_grown (g := gb331) (o := .cells #[.slice (some ⟨go60, 0, none⟩) x332000_1.length co57] 24 (0, 0)) zk hg (Kd.R_ne HL353_0.out BK331.out (by decide)))
           have n3_ := zM (blk_grown (g := gb341) (o := .cells #[.int .i64 t337, .int .i64 t338, .int .i64 t339] 31 (0, 0)) zk hg (Kd.R_ne HL353_0.out BK341.out (by decide)))
           have n4_ := zM (blk_grown (g := gb349) (o := .cells #[.int .i64 t342, .int .i64 t343, .int .i64 t344, .int .i64 t345, .int .i64 t346, .int .i64 t347] 35 (0, 0)) zk hg (Kd.R_away HL353_0.out (fun _ hk => hk.1)))
           have n5_ := zM (hb)
           have n6_ := zM (Kd.H_grown (Kd.H_widen (by repeat (first | exact HH60.out | refine Kd.H_alloc ?_ _ | refine Kd.H_drewN ?_ _ | refine Kd.H_drew ?_))) hg (fun k_ e_ => .inl (UU60.out.1 k_ e_)))
           have n7_ := zM (ho)
           clear HO_19
           clear BK330
           clear BK331
           clear BK341
           clear BK349
           clear HB
           clear HH60
           clear HO_332000
           clear UU60
           clear HL353_0
           have HO_19 := n0_
           have BK330 := n1_
           have BK331 := n2_
           have BK341 := n3_
           have BK349 := n4_
           have HB := n5_
           have HH60 := n6_
           have HO356 := n7_
           clear n0_ n1_ n2_ n3_ n4_ n5_ n6_ n7_
           clear ho hb hg hat
           have p43 : 0 ≤ ((ji39) : Int) := zd
           have q43 : ((ji39) : Int) < ((x332000_1.length : Int) : Int) := zd
           replace p43 := eq_true p43
           replace q43 := eq_true q43
           obtain ⟨Ao64, co64, eo64⟩ := Kd.R_slice HO356.out
           (first | subst eo64 | (injection eo64 with f1_ f2_ f3_; have f4_ := f1_.symm; have f5_ := f3_.symm; clear f1_ f2_ f3_; subst f4_; subst f5_))
           obtain ⟨_, _, hraw62, _, _, hcc62, _⟩ := Kd.H_raw HH60.out (zd) (by have h_ : ((ji39) : Int) < ((x332000_1.length : Int) : Int) := zd; first | exact h_ | (have e_ := (HN60.out); omega) | simpa using h_)
           obtain ⟨_, hfr62⟩ := Kd.H_at HH60.out (zd) (by have h_ : ((ji39) : Int) < ((x332000_1.length : Int) : Int) := zd; first | exact h_ | (have e_ := (HN60.out); omega) | simpa using h_)
           have hx62_0 := hcc62 0 _ rfl
           have hf62_0 := hfr62 0
           (try simp only [Nat.add_zero] at hx62_0 hf62_0)
           (try rw [show (k40).sz = 4 from rfl] at hx62_0)
           (try rw [show (k40).sz = 4 from rfl] at hf62_0)
           have HP62 := Kd.S_seg0 HH60.out (zd) (by have h_ : ((ji39) : Int) < ((x332000_1.length : Int) : Int) := zd; first | exact h_ | (have e_ := (HN60.out); omega) | simpa using h_) (seg := [.slice Ao64 y354.length co64]) (j := 0) (show 1 ≤ 4 from by decide) (x' := (⟨y354, (⟨(rd_T40 x332000_1 (ji39)).f1.f0, (rd_T40 x332000_1 (ji39)).f1.f1, (rd_T40 x332000_1 (ji39)).f1.f2⟩ : S31)⟩ : S40)) (k40_mkM _ _ _ (⟨y354, (⟨(rd_T40 x332000_1 (ji39)).f1.f0, (rd_T40 x332000_1 (ji39)).f1.f1, (rd_T40 x332000_1 (ji39)).f1.f2⟩ : S31)⟩ : S40) HO356.out) (fun _ hk => hk)
           clear hcc62 hfr62
           have HNB330_go60 := zM (show gb330 ≠ go60 from by have h_ := Kd.R_ne hraw62 BK330.out (by decide); intro e_; exact h_ (by rw [e_]; rfl))
           have HNB331_go60 := zM (show gb331 ≠ go60 from by have h_ := Kd.R_ne hraw62 BK331.out (by decide); intro e_; exact h_ (by rw [e_]; rfl))
           have HNB341_go60 := zM (show gb341 ≠ go60 from by have h_ := Kd.R_ne hraw62 BK341.out (by decide); intro e_; exact h_ (by rw [e_]; rfl))
           have HNB349_go60 := zM (show gb349 ≠ go60 from by have h_ := Kd.R_ne hraw62 BK349.out (by decide); intro e_; exact h_ (by rw [e_]; rfl))
           have HS62 := HP62.1
           rw [← Ny357.out] at HS62
           have HQ62 := zM HS62
           obtain ⟨_, hgg62⟩ := Kd.R_typed hraw62 go60 rfl
           have GG62_ := zM hgg62
           clear HP62 HS62 hgg62
           refine hK.out _ _ ⟨(z5 BK331.out 0).trans rfl, (z5 BK349.out 0).trans rfl, (z5 BK349.out 1).trans rfl, (z5 BK349.out 2).trans rfl, (z5 BK349.out 3).trans rfl, (z5 BK349.out 4).trans rfl, (z5 BK349.out 5).trans rfl, HS7_, HS8_, HS9_, HS10_⟩ (fun hHeld => ?_)
           clear hK K
           refine norm_ (a' := ?_) ?_ ?_
           rotate_left
           ·show Act.put _ (some 69) _ = _
            exact zu
           refine pure_ (i := 12) (N := some 70) (v := ?_) (a' := ?_) #[true, true, true, true, true, true, true, true, true, true, true, true, true, false, false] rfl rfl (any_of HT_.out (by kernel_rfl)) (fun _ _ _ h => h) (Or.inl ⟨by rfl, ?_⟩) ?_ ?_
           rotate_left
           ·intro w'
            go_simp
            with_reducible rfl
           rotate_left
           ·exact zu
           refine pure_ (i := 13) (N := some 71) (v := ?_) (a' := ?_) #[true, true, true, true, true, true, true, true, true, true, true, true, true, true, false] rfl rfl (any_of HT_.out (by kernel_rfl)) (fun _ _ _ h => h) (Or.inl ⟨by rfl, ?_⟩) ?_ ?_
           rotate_left
           ·intro w'
            go_simp
            with_reducible rfl
           rotate_left
           ·exact zu
           refine last_ (i := 14) (N := none) #[true, true, true, true, true, true, true, true, true, true, true, true, true, true, true] rfl rfl (one_of HT_.out (by kernel_rfl)) (by decide) (fun K hK => ?_)
           refine skip_ (w1 := ?_) (by rfl) rfl ?_ ?_
           rotate_left
           ·go_simp
            rfl
           refine hK.out _ _ ?_
           clear hK K
           refine done_ (done_of HT_.out (by kernel_rfl)) ?_
           try go_wp2
           go_roundg k1
           case measure => have := HK1.out; omega
           case rel => exact ⟨(wrap64 (x21_1 + 1)), (y357), (.slice (some ⟨go60, 0, none⟩) x332000_1.length co57), zs, H', ⟨by have := HK1.out; omega⟩, ⟨by (with_reducible repeat (first | apply zI | apply zJ | apply zK)); exact z1 (zc (p := ⟨go60, ((ji39) : Int).toNat * 4, none⟩) (Kd.R_types HO_19.out GG62_.out (by decide)) (fun _ hk => hk.2) (.slice Ao64 y354.length co64)) (fun _ hk => trivial)⟩, ⟨by (with_reducible repeat (first | apply zU | apply zV | apply zW)); exact Kd.S_mono HQ62.out (fun _ hk => trivial)⟩, ⟨zl HNB330_go60.out BK330.out⟩, ⟨zl HNB331_go60.out BK331.out⟩, ⟨by repeat (first | (with_reducible first | exact HB.out | apply z2 | apply z3 | apply z4 | refine zS ?_ GB60.out | refine zS ?_ GE330.out | refine zS ?_ GE331.out | refine zS ?_ GE341.out | refine zS ?_ GE349.out) | exact HB.out)⟩⟩
          rw [if_neg c42] at H
          exact absurd H (by simp)
         rw [if_neg c41] at H
         exact absurd H (by simp)
        rw [if_neg c40] at H
        exact absurd H (by simp)
       rw [if_neg c38] at H
       have c38b0 : decide (0 ≤ (wrap64 ((x332000_1.length : Int) - 1))) = false := decide_eq_false c38
       clear c38
       have H' := zM H
       clear H
       have p336 : 0 ≤ (x21_1 : Int) := zd
       have q336 : x21_1 < (t332.length : Int) := zd
       obtain ⟨ad336, e336, hx336_0⟩ := Kd.at_string (z9 HO_19.out).2.2 x21_1 p336 q336
       cases e336
       replace p336 := eq_true p336
       replace q336 := eq_true q336
       go_wp2_with (first | ((with_reducible refine gate_callee (f := 15) rfl ?_); refine goesL_ (some 28) rfl rfl Tryz.func15 (by kernel_rfl) rfl #[.string (rdOf ByteArray.empty t332 x21_1)] rfl zg ?_; (with_reducible refine (impl_parseTaskLine.calls k1 (rdOf ByteArray.empty t332 x21_1) t337 t338 t339 false _ A15.out).mono ?_); rintro e w65 ⟨rfl, hb⟩; refine ⟨_, rfl, ?_⟩; have n0_ := zM (ze (by (with_reducible repeat (first | apply zI | apply zJ | apply zK)); exact HO_19.out) hb); have n1_ := zM (Kd.S_below (by (with_reducible repeat (first | apply zU | apply zV | apply zW)); exact HO_332000.out) hb); have n2_ := zM (z7 (g := gb330) (o := .cells #[.slice none 0 0] 24 (0, 0)) zk hb); have n3_ := zM (z7 (g := gb331) (o := .cells #[u332000] 24 (0, 0)) zk hb); have n4_ := zM (zQ zb hb); clear HO_19; clear HO_332000; clear BK330; clear BK331; clear HB; have HO_19 := n0_; have HO_332000 := n1_; have BK330 := n2_; have BK331 := n3_; have HB := n4_; clear n0_ n1_ n2_ n3_ n4_; (try clear hb); (try clear hk)) | ((with_reducible refine gate_dst (N := 7) rfl ?_); refine box_event ?hg (N := 7) ?hd (cs := #[.int .i64 0, .int .i64 0, .int .i64 0]) (t := 31) ?hr ?_; (case hd => rfl); (case hg => rfl); (case hr => first | (go_simp; done) | (go_simp; rfl)); intro gb341 hg w66 hbox hb; have n0_ := zM (ze (by (with_reducible repeat (first | apply zI | apply zJ | apply zK)); exact HO_19.out) hb); have n1_ := zM (Kd.S_below (by (with_reducible repeat (first | apply zU | apply zV | apply zW)); exact HO_332000.out) hb); have n2_ := zM (z7 (g := gb330) (o := .cells #[.slice none 0 0] 24 (0, 0)) zk hb); have n3_ := zM (z7 (g := gb331) (o := .cells #[u332000] 24 (0, 0)) zk hb); have n4_ := zM (zQ zb hb); have n5_ := zM (hbox); have n6_ := zM ((by rw [hg]; exact (zR zb) : w.heap.size ≤ gb341)); have n7_ := zM ((by rw [hg]; exact (zR zb) : w.heap.size ≤ gb341)); have n8_ := zM ((by rw [hg]; exact Nat.ne_of_lt (blk_lt (g := gb330) (o := .cells #[.slice none 0 0] 24 (0, 0)) zk) : gb330 ≠ gb341)); have n9_ := zM ((by rw [hg]; exact Nat.ne_of_gt (blk_lt (g := gb330) (o := .cells #[.slice none 0 0] 24 (0, 0)) zk) : gb341 ≠ gb330)); have n10_ := zM ((by rw [hg]; exact Nat.ne_of_lt (blk_lt (g := gb331) (o := .cells #[u332000] 24 (0, 0)) zk) : gb331 ≠ gb341)); have n11_ := zM ((by rw [hg]; exact Nat.ne_of_gt (blk_lt (g := gb331) (o := .cells #[u332000] 24 (0, 0)) zk) : gb341 ≠ gb331)); clear HO_19; clear HO_332000; clear BK330; clear BK331; clear HB; have HO_19 := n0_; have HO_332000 := n1_; have BK330 := n2_; have BK331 := n3_; have HB := n4_; have BK341 := n5_; have GW341 := n6_; have GE341 := n7_; have NB330_341 := n8_; have NB341_330 := n9_; have NB331_341 := n10_; have NB341_331 := n11_; clear n0_ n1_ n2_ n3_ n4_ n5_ n6_ n7_ n8_ n9_ n10_ n11_; clear hb hbox hg; have hnb67 := NB341_330.out; have hnc67 := NB330_341.out; have hnb68 := NB341_331.out; have hnc68 := NB331_341.out; have hcz69_0 := (z5 BK341.out 0).trans rfl; have hcz69_1 := (z5 BK341.out 1).trans rfl; have hcz69_2 := (z5 BK341.out 2).trans rfl; have hfz69_0 := z6 BK341.out 0; have hfz69_1 := z6 BK341.out 1; have hfz69_2 := z6 BK341.out 2) | ((with_reducible refine gate_callee (f := 16) rfl ?_); refine goesL_ (some 33) rfl rfl Tryz.func16 (by kernel_rfl) rfl #[.string (rdOf ByteArray.empty t332 x21_1)] rfl zg ?_; (with_reducible refine (impl_parseStmt.calls k1 (rdOf ByteArray.empty t332 x21_1) t342 t343 t344 t345 t346 t347 true _ A16.out).mono ?_); rintro e w70 ⟨rfl, hb⟩; refine ⟨_, rfl, ?_⟩; have n0_ := zM (ze (by (with_reducible repeat (first | apply zI | apply zJ | apply zK)); exact (z1 (zc (p := ⟨gb341, 2, none⟩) (zc (p := ⟨gb341, 1, none⟩) (zc (p := ⟨gb341, 0, none⟩) (Kd.R_types HO_19.out BK341.out (by decide)) (fun _ hk => hk.2) (.int .i64 t337)) (fun _ hk => hk.2) (.int .i64 t338)) (fun _ hk => hk.2) (.int .i64 t339)) (fun _ h_ => h_.1))) hb); have n1_ := zM (Kd.S_below (by (with_reducible repeat (first | apply zU | apply zV | apply zW)); exact (Kd.S_mono (Kd.S_far (p := ⟨gb341, 2, none⟩) (Kd.S_far (p := ⟨gb341, 1, none⟩) (Kd.S_far (p := ⟨gb341, 0, none⟩) (Kd.S_types HO_332000.out BK341.out (by decide)) (fun _ hk => hk.2) (.int .i64 t337)) (fun _ hk => hk.2) (.int .i64 t338)) (fun _ hk => hk.2) (.int .i64 t339)) (fun _ h_ => h_.1))) hb); have n2_ := zM (z7 (g := gb330) (o := .cells #[.slice none 0 0] 24 (0, 0)) (zl NB330_341.out BK330.out) hb); have n3_ := zM (z7 (g := gb331) (o := .cells #[u332000] 24 (0, 0)) (zl NB331_341.out BK331.out) hb); have n4_ := zM (z7 (g := gb341) (o := .cells #[.int .i64 t337, .int .i64 t338, .int .i64 t339] 31 (0, 0)) (by (with_reducible repeat (first | refine zN ?_ _ | refine zO ?_ | refine zP ?_ _)); refine blk_put (cs := #[.int .i64 t337, .int .i64 t338, .int .i64 0]) ?_ 2 _ rfl; (with_reducible repeat (first | refine zN ?_ _ | refine zO ?_ | refine zP ?_ _)); refine blk_put (cs := #[.int .i64 t337, .int .i64 0, .int .i64 0]) ?_ 1 _ rfl; (with_reducible repeat (first | refine zN ?_ _ | refine zO ?_ | refine zP ?_ _)); refine blk_put (cs := #[.int .i64 0, .int .i64 0, .int .i64 0]) ?_ 0 _ rfl; (with_reducible repeat (first | refine zN ?_ _ | refine zO ?_ | refine zP ?_ _)); exact BK341.out) hb); have n5_ := zM (zQ zb hb); clear HO_19; clear HO_332000; clear BK330; clear BK331; clear BK341; clear HB; have HO_19 := n0_; have HO_332000 := n1_; have BK330 := n2_; have BK331 := n3_; have BK341 := n4_; have HB := n5_; clear n0_ n1_ n2_ n3_ n4_ n5_; (try clear hb); (try clear hk)) | ((with_reducible refine gate_dst (N := 9) rfl ?_); refine box_event ?hg (N := 9) ?hd (cs := #[.int .i64 0, .int .i64 0, .int .i64 0, .int .i64 0, .int .i64 0, .int .i64 0]) (t := 35) ?hr ?_; (case hd => rfl); (case hg => rfl); (case hr => first | (go_simp; done) | (go_simp; rfl)); intro gb349 hg w71 hbox hb; have n0_ := zM (ze (by (with_reducible repeat (first | apply zI | apply zJ | apply zK)); exact HO_19.out) hb); have n1_ := zM (Kd.S_below (Kd.S_elderB (by (with_reducible repeat (first | apply zU | apply zV | apply zW)); exact HO_332000.out) gb349 (Nat.le_of_eq hg.symm)) hb); have n2_ := zM (z7 (g := gb330) (o := .cells #[.slice none 0 0] 24 (0, 0)) zk hb); have n3_ := zM (z7 (g := gb331) (o := .cells #[u332000] 24 (0, 0)) zk hb); have n4_ := zM (z7 (g := gb341) (o := .cells #[.int .i64 t337, .int .i64 t338, .int .i64 t339] 31 (0, 0)) zk hb); have n5_ := zM (zQ zb hb); have n6_ := zM (hbox); have n7_ := zM ((by rw [hg]; exact (zR zb) : w.heap.size ≤ gb349)); have n8_ := zM ((by rw [hg]; exact (zR zb) : w.heap.size ≤ gb349)); have n9_ := zM ((by rw [hg]; exact Nat.ne_of_lt (blk_lt (g := gb330) (o := .cells #[.slice none 0 0] 24 (0, 0)) zk) : gb330 ≠ gb349)); have n10_ := zM ((by rw [hg]; exact Nat.ne_of_gt (blk_lt (g := gb330) (o := .cells #[.slice none 0 0] 24 (0, 0)) zk) : gb349 ≠ gb330)); have n11_ := zM ((by rw [hg]; exact Nat.ne_of_lt (blk_lt (g := gb331) (o := .cells #[u332000] 24 (0, 0)) zk) : gb331 ≠ gb349)); have n12_ := zM ((by rw [hg]; exact Nat.ne_of_gt (blk_lt (g := gb331) (o := .cells #[u332000] 24 (0, 0)) zk) : gb349 ≠ gb331)); have n13_ := zM ((by rw [hg]; exact Nat.ne_of_lt (blk_lt (g := gb341) (o := .cells #[.int .i64 t337, .int .i64 t338, .int .i64 t339] 31 (0, 0)) zk) : gb341 ≠ gb349)); have n14_ := zM ((by rw [hg]; exact Nat.ne_of_gt (blk_lt (g := gb341) (o := .cells #[.int .i64 t337, .int .i64 t338, .int .i64 t339] 31 (0, 0)) zk) : gb349 ≠ gb341)); clear HO_19; clear HO_332000; clear BK330; clear BK331; clear BK341; clear HB; have HO_19 := n0_; have HO_332000 := n1_; have BK330 := n2_; have BK331 := n3_; have BK341 := n4_; have HB := n5_; have BK349 := n6_; have GW349 := n7_; have GE349 := n8_; have NB330_349 := n9_; have NB349_330 := n10_; have NB331_349 := n11_; have NB349_331 := n12_; have NB341_349 := n13_; have NB349_341 := n14_; clear n0_ n1_ n2_ n3_ n4_ n5_ n6_ n7_ n8_ n9_ n10_ n11_ n12_ n13_ n14_; clear hb hbox hg; have hnb72 := NB349_330.out; have hnc72 := NB330_349.out; have hnb73 := NB349_331.out; have hnc73 := NB331_349.out; have hnb74 := NB349_341.out; have hnc74 := NB341_349.out; have hcz75_0 := (z5 BK349.out 0).trans rfl; have hcz75_1 := (z5 BK349.out 1).trans rfl; have hcz75_2 := (z5 BK349.out 2).trans rfl; have hcz75_3 := (z5 BK349.out 3).trans rfl; have hcz75_4 := (z5 BK349.out 4).trans rfl; have hcz75_5 := (z5 BK349.out 5).trans rfl; have hfz75_0 := z6 BK349.out 0; have hfz75_1 := z6 BK349.out 1; have hfz75_2 := z6 BK349.out 2; have hfz75_3 := z6 BK349.out 3; have hfz75_4 := z6 BK349.out 4; have hfz75_5 := z6 BK349.out 5; have hnb76 := NB331_330.out; have hnc76 := NB330_331.out; have hcz77_0 := (z5 BK331.out 0).trans rfl; have hfz77_0 := z6 BK331.out 0; obtain ⟨Ao78, co78, eo78⟩ := Kd.S_slice HO_332000.out; subst eo78))
       go_roundg k1
       case measure => have := HK1.out; omega
       case rel => exact ⟨(wrap64 (x21_1 + 1)), (x332000_1), (.slice Ao78 x332000_1.length co78), zs, H', ⟨by have := HK1.out; omega⟩, ⟨by (with_reducible repeat (first | apply zI | apply zJ | apply zK)); exact z1 (zc (p := ⟨gb349, 5, none⟩) (zc (p := ⟨gb349, 4, none⟩) (zc (p := ⟨gb349, 3, none⟩) (zc (p := ⟨gb349, 2, none⟩) (zc (p := ⟨gb349, 1, none⟩) (zc (p := ⟨gb349, 0, none⟩) (Kd.R_types HO_19.out BK349.out (by decide)) (fun _ hk => hk.2) (.int .i64 t342)) (fun _ hk => hk.2) (.int .i64 t343)) (fun _ hk => hk.2) (.int .i64 t344)) (fun _ hk => hk.2) (.int .i64 t345)) (fun _ hk => hk.2) (.int .i64 t346)) (fun _ hk => hk.2) (.int .i64 t347)) (fun _ hk => trivial)⟩, ⟨by (with_reducible repeat (first | apply zU | apply zV | apply zW)); exact Kd.S_mono (Kd.S_far (p := ⟨gb349, 5, none⟩) (Kd.S_far (p := ⟨gb349, 4, none⟩) (Kd.S_far (p := ⟨gb349, 3, none⟩) (Kd.S_far (p := ⟨gb349, 2, none⟩) (Kd.S_far (p := ⟨gb349, 1, none⟩) (Kd.S_far (p := ⟨gb349, 0, none⟩) (Kd.S_mono HO_332000.out (fun k_ hk => (⟨hk, hk.2⟩ : _ ∧ k_ ≠ gb349))) (fun _ hk => hk.2) (.int .i64 t342)) (fun _ hk => hk.2) (.int .i64 t343)) (fun _ hk => hk.2) (.int .i64 t344)) (fun _ hk => hk.2) (.int .i64 t345)) (fun _ hk => hk.2) (.int .i64 t346)) (fun _ hk => hk.2) (.int .i64 t347)) (fun _ hk => trivial)⟩, ⟨zl NB330_349.out BK330.out⟩, ⟨zl NB331_349.out BK331.out⟩, ⟨zb⟩⟩
      replace c37 := Bool.eq_false_iff.mpr c37
      subst c37
      have H1 : (some (([] : List (S40)), wrap64 (x21_1 + 1))) = some (r1, r2) := by rw [if_neg (show ¬ (false = true) by decide)] at H; exact H
      clear H
      have H := H1
      clear H1
      simp only [Option.some.injEq, Prod.mk.injEq] at H
      obtain ⟨rfl, rfl⟩ := H
      have p336 : 0 ≤ (x21_1 : Int) := zd
      have q336 : x21_1 < (t332.length : Int) := zd
      obtain ⟨ad336, e336, hx336_0⟩ := Kd.at_string (z9 HO_19.out).2.2 x21_1 p336 q336
      cases e336
      replace p336 := eq_true p336
      replace q336 := eq_true q336
      go_wp2_with (first | ((with_reducible refine gate_callee (f := 15) rfl ?_); refine goesL_ (some 28) rfl rfl Tryz.func15 (by kernel_rfl) rfl #[.string (rdOf ByteArray.empty t332 x21_1)] rfl zg ?_; (with_reducible refine (impl_parseTaskLine.calls k1 (rdOf ByteArray.empty t332 x21_1) t337 t338 t339 false _ A15.out).mono ?_); rintro e w79 ⟨rfl, hb⟩; refine ⟨_, rfl, ?_⟩; have n0_ := zM (ze (by (with_reducible repeat (first | apply zI | apply zJ | apply zK)); exact HO_19.out) hb); have n1_ := zM (Kd.S_below (by (with_reducible repeat (first | apply zU | apply zV | apply zW)); exact HO_332000.out) hb); have n2_ := zM (z7 (g := gb330) (o := .cells #[.slice none 0 0] 24 (0, 0)) zk hb); have n3_ := zM (z7 (g := gb331) (o := .cells #[u332000] 24 (0, 0)) zk hb); have n4_ := zM (zQ zb hb); clear HO_19; clear HO_332000; clear BK330; clear BK331; clear HB; have HO_19 := n0_; have HO_332000 := n1_; have BK330 := n2_; have BK331 := n3_; have HB := n4_; clear n0_ n1_ n2_ n3_ n4_; (try clear hb); (try clear hk)) | ((with_reducible refine gate_dst (N := 7) rfl ?_); refine box_event ?hg (N := 7) ?hd (cs := #[.int .i64 0, .int .i64 0, .int .i64 0]) (t := 31) ?hr ?_; (case hd => rfl); (case hg => rfl); (case hr => first | (go_simp; done) | (go_simp; rfl)); intro gb341 hg w80 hbox hb; have n0_ := zM (ze (by (with_reducible repeat (first | apply zI | apply zJ | apply zK)); exact HO_19.out) hb); have n1_ := zM (Kd.S_below (by (with_reducible repeat (first | apply zU | apply zV | apply zW)); exact HO_332000.out) hb); have n2_ := zM (z7 (g := gb330) (o := .cells #[.slice none 0 0] 24 (0, 0)) zk hb); have n3_ := zM (z7 (g := gb331) (o := .cells #[u332000] 24 (0, 0)) zk hb); have n4_ := zM (zQ zb hb); have n5_ := zM (hbox); have n6_ := zM ((by rw [hg]; exact (zR zb) : w.heap.size ≤ gb341)); have n7_ := zM ((by rw [hg]; exact (zR zb) : w.heap.size ≤ gb341)); have n8_ := zM ((by rw [hg]; exact Nat.ne_of_lt (blk_lt (g := gb330) (o := .cells #[.slice none 0 0] 24 (0, 0)) zk) : gb330 ≠ gb341)); have n9_ := zM ((by rw [hg]; exact Nat.ne_of_gt (blk_lt (g := gb330) (o := .cells #[.slice none 0 0] 24 (0, 0)) zk) : gb341 ≠ gb330)); have n10_ := zM ((by rw [hg]; exact Nat.ne_of_lt (blk_lt (g := gb331) (o := .cells #[u332000] 24 (0, 0)) zk) : gb331 ≠ gb341)); have n11_ := zM ((by rw [hg]; exact Nat.ne_of_gt (blk_lt (g := gb331) (o := .cells #[u332000] 24 (0, 0)) zk) : gb341 ≠ gb331)); clear HO_19; clear HO_332000; clear BK330; clear BK331; clear HB; have HO_19 := n0_; have HO_332000 := n1_; have BK330 := n2_; have BK331 := n3_; have HB := n4_; have BK341 := n5_; have GW341 := n6_; have GE341 := n7_; have NB330_341 := n8_; have NB341_330 := n9_; have NB331_341 := n10_; have NB341_331 := n11_; clear n0_ n1_ n2_ n3_ n4_ n5_ n6_ n7_ n8_ n9_ n10_ n11_; clear hb hbox hg; have hnb81 := NB341_330.out; have hnc81 := NB330_341.out; have hnb82 := NB341_331.out; have hnc82 := NB331_341.out; have hcz83_0 := (z5 BK341.out 0).trans rfl; have hcz83_1 := (z5 BK341.out 1).trans rfl; have hcz83_2 := (z5 BK341.out 2).trans rfl; have hfz83_0 := z6 BK341.out 0; have hfz83_1 := z6 BK341.out 1; have hfz83_2 := z6 BK341.out 2) | ((with_reducible refine gate_callee (f := 16) rfl ?_); refine goesL_ (some 33) rfl rfl Tryz.func16 (by kernel_rfl) rfl #[.string (rdOf ByteArray.empty t332 x21_1)] rfl zg ?_; (with_reducible refine (impl_parseStmt.calls k1 (rdOf ByteArray.empty t332 x21_1) t342 t343 t344 t345 t346 t347 false _ A16.out).mono ?_); rintro e w84 ⟨rfl, hb⟩; refine ⟨_, rfl, ?_⟩; have n0_ := zM (ze (by (with_reducible repeat (first | apply zI | apply zJ | apply zK)); exact (z1 (zc (p := ⟨gb341, 2, none⟩) (zc (p := ⟨gb341, 1, none⟩) (zc (p := ⟨gb341, 0, none⟩) (Kd.R_types HO_19.out BK341.out (by decide)) (fun _ hk => hk.2) (.int .i64 t337)) (fun _ hk => hk.2) (.int .i64 t338)) (fun _ hk => hk.2) (.int .i64 t339)) (fun _ h_ => h_.1))) hb); have n1_ := zM (Kd.S_below (by (with_reducible repeat (first | apply zU | apply zV | apply zW)); exact (Kd.S_mono (Kd.S_far (p := ⟨gb341, 2, none⟩) (Kd.S_far (p := ⟨gb341, 1, none⟩) (Kd.S_far (p := ⟨gb341, 0, none⟩) (Kd.S_types HO_332000.out BK341.out (by decide)) (fun _ hk => hk.2) (.int .i64 t337)) (fun _ hk => hk.2) (.int .i64 t338)) (fun _ hk => hk.2) (.int .i64 t339)) (fun _ h_ => h_.1))) hb); have n2_ := zM (z7 (g := gb330) (o := .cells #[.slice none 0 0] 24 (0, 0)) (zl NB330_341.out BK330.out) hb); have n3_ := zM (z7 (g := gb331) (o := .cells #[u332000] 24 (0, 0)) (zl NB331_341.out BK331.out) hb); have n4_ := zM (z7 (g := gb341) (o := .cells #[.int .i64 t337, .int .i64 t338, .int .i64 t339] 31 (0, 0)) (by (with_reducible repeat (first | refine zN ?_ _ | refine zO ?_ | refine zP ?_ _)); refine blk_put (cs := #[.int .i64 t337, .int .i64 t338, .int .i64 0]) ?_ 2 _ rfl; (with_reducible repeat (first | refine zN ?_ _ | refine zO ?_ | refine zP ?_ _)); refine blk_put (cs := #[.int .i64 t337, .int .i64 0, .int .i64 0]) ?_ 1 _ rfl; (with_reducible repeat (first | refine zN ?_ _ | refine zO ?_ | refine zP ?_ _)); refine blk_put (cs := #[.int .i64 0, .int .i64 0, .int .i64 0]) ?_ 0 _ rfl; (with_reducible repeat (first | refine zN ?_ _ | refine zO ?_ | refine zP ?_ _)); exact BK341.out) hb); have n5_ := zM (zQ zb hb); clear HO_19; clear HO_332000; clear BK330; clear BK331; clear BK341; clear HB; have HO_19 := n0_; have HO_332000 := n1_; have BK330 := n2_; have BK331 := n3_; have BK341 := n4_; have HB := n5_; clear n0_ n1_ n2_ n3_ n4_ n5_; (try clear hb); (try clear hk)) | ((with_reducible refine gate_dst (N := 9) rfl ?_); refine box_event ?hg (N := 9) ?hd (cs := #[.int .i64 0, .int .i64 0, .int .i64 0, .int .i64 0, .int .i64 0, .int .i64 0]) (t := 35) ?hr ?_; (case hd => rfl); (case hg => rfl); (case hr => first | (go_simp; done) | (go_simp; rfl)); intro gb349 hg w85 hbox hb; have n0_ := zM (ze (by (with_reducible repeat (first | apply zI | apply zJ | apply zK)); exact HO_19.out) hb); have n1_ := zM (Kd.S_below (Kd.S_elderB (by (with_reducible repeat (first | apply zU | apply zV | apply zW)); exact HO_332000.out) gb349 (Nat.le_of_eq hg.symm)) hb); have n2_ := zM (z7 (g := gb330) (o := .cells #[.slice none 0 0] 24 (0, 0)) zk hb); have n3_ := zM (z7 (g := gb331) (o := .cells #[u332000] 24 (0, 0)) zk hb); have n4_ := zM (z7 (g := gb341) (o := .cells #[.int .i64 t337, .int .i64 t338, .int .i64 t339] 31 (0, 0)) zk hb); have n5_ := zM (zQ zb hb); have n6_ := zM (hbox); have n7_ := zM ((by rw [hg]; exact (zR zb) : w.heap.size ≤ gb349)); have n8_ := zM ((by rw [hg]; exact (zR zb) : w.heap.size ≤ gb349)); have n9_ := zM ((by rw [hg]; exact Nat.ne_of_lt (blk_lt (g := gb330) (o := .cells #[.slice none 0 0] 24 (0, 0)) zk) : gb330 ≠ gb349)); have n10_ := zM ((by rw [hg]; exact Nat.ne_of_gt (blk_lt (g := gb330) (o := .cells #[.slice none 0 0] 24 (0, 0)) zk) : gb349 ≠ gb330)); have n11_ := zM ((by rw [hg]; exact Nat.ne_of_lt (blk_lt (g := gb331) (o := .cells #[u332000] 24 (0, 0)) zk) : gb331 ≠ gb349)); have n12_ := zM ((by rw [hg]; exact Nat.ne_of_gt (blk_lt (g := gb331) (o := .cells #[u332000] 24 (0, 0)) zk) : gb349 ≠ gb331)); have n13_ := zM ((by rw [hg]; exact Nat.ne_of_lt (blk_lt (g := gb341) (o := .cells #[.int .i64 t337, .int .i64 t338, .int .i64 t339] 31 (0, 0)) zk) : gb341 ≠ gb349)); have n14_ := zM ((by rw [hg]; exact Nat.ne_of_gt (blk_lt (g := gb341) (o := .cells #[.int .i64 t337, .int .i64 t338, .int .i64 t339] 31 (0, 0)) zk) : gb349 ≠ gb341)); clear HO_19; clear HO_332000; clear BK330; clear BK331; clear BK341; clear HB; have HO_19 := n0_; have HO_332000 := n1_; have BK330 := n2_; have BK331 := n3_; have BK341 := n4_; have HB := n5_; have BK349 := n6_; have GW349 := n7_; have GE349 := n8_; have NB330_349 := n9_; have NB349_330 := n10_; have NB331_349 := n11_; have NB349_331 := n12_; have NB341_349 := n13_; have NB349_341 := n14_; clear n0_ n1_ n2_ n3_ n4_ n5_ n6_ n7_ n8_ n9_ n10_ n11_ n12_ n13_ n14_; clear hb hbox hg; have hnb86 := NB349_330.out; have hnc86 := NB330_349.out; have hnb87 := NB349_331.out; have hnc87 := NB331_349.out; have hnb88 := NB349_341.out; have hnc88 := NB341_349.out; have hcz89_0 := (z5 BK349.out 0).trans rfl; have hcz89_1 := (z5 BK349.out 1).trans rfl; have hcz89_2 := (z5 BK349.out 2).trans rfl; have hcz89_3 := (z5 BK349.out 3).trans rfl; have hcz89_4 := (z5 BK349.out 4).trans rfl; have hcz89_5 := (z5 BK349.out 5).trans rfl; have hfz89_0 := z6 BK349.out 0; have hfz89_1 := z6 BK349.out 1; have hfz89_2 := z6 BK349.out 2; have hfz89_3 := z6 BK349.out 3; have hfz89_4 := z6 BK349.out 4; have hfz89_5 := z6 BK349.out 5; have hnb90 := NB331_330.out; have hnc90 := NB330_331.out; have hcz91_0 := (z5 BK331.out 0).trans rfl; have hfz91_0 := z6 BK331.out 0; obtain ⟨Ao92, co92, eo92⟩ := Kd.S_slice HO_332000.out; subst eo92; have hcz93_0 := (z5 BK330.out 0).trans rfl; have hfz93_0 := z6 BK330.out 0))
      refine bodyPost_ret (results_ct rfl _ _ gb330 24 #[.slice none 0 0] (0, 0) _ rfl (by (with_reducible repeat (first | refine zN ?_ _ | refine zO ?_ | refine zP ?_ _)); refine blk_put (cs := #[.slice none 0 0]) ?_ 0 _ rfl; (repeat (first | (with_reducible first | refine zN ?_ _ | refine zO ?_ | refine zP ?_ _) | refine blk_far ?_ NB330_349.out _)); exact BK330.out) Tryz.underlying24 rfl (by kernel_rfl)) rfl ?_
      exact ⟨_, by first | rfl | (simp [errW_none, errW_some] <;> rfl) | (simp [*, errW_none, errW_some] <;> rfl), by first | exact Kd.S_nil _ _ _ _ _ | exact Kd.N_nil _ _ _ _ _ | exact Kd.V_nil _ _ _ _ _ | exact Kd.Q_nil _ _ _ _ _ | exact Kd.R_nil _ _ _ _ _, zb⟩
     rw [if_neg c14] at H
     exact absurd H (by simp)
    rw [if_neg c13] at H
    exact absurd H (by simp)
   rw [if_neg c12] at H
   have c12b0 : decide (x21_1 < (t332.length : Int)) = false := decide_eq_false c12
   clear c12
   replace H := Option.bind_eq_some_iff.mp H
   obtain ⟨t335, A940, H⟩ := H
   replace H : (if t335.toList = ([] : List UInt8) then (some (([] : List (S40)), (-2))) else (if t335.toList = a0.toList then (some (x332000_1, 0)) else (some (([] : List (S40)), (-2))))) = some (r1, r2) := H
   have A94 := zM A940
   clear A940
   by_cases c95 : t335.toList = ([] : List UInt8)
   ·rw [if_pos c95] at H
    have c95b0 : (t335.toList == ([] : List UInt8)) = true := beq_iff_eq.mpr c95
    have c95b1 : (t335.toList != ([] : List UInt8)) = false := bne_eq_false_iff_eq.mpr c95
    clear c95
    simp only [Option.some.injEq, Prod.mk.injEq] at H
    obtain ⟨rfl, rfl⟩ := H
    have hnb96 := NB331_330.out
    have hnc96 := NB330_331.out
    have hcz97_0 := (z5 BK331.out 0).trans rfl
    have hfz97_0 := z6 BK331.out 0
    obtain ⟨Ao98, co98, eo98⟩ := Kd.S_slice HO_332000.out
    subst eo98
    go_wp2_with (first | ((with_reducible refine gate_callee (f := 17) rfl ?_); refine goesL_ (some 74) rfl rfl Tryz.func17 (by kernel_rfl) rfl #[.agg #[.slice Ao98 x332000_1.length co98]] rfl zg ?_; (with_reducible refine (impl_ProgramText.calls k1 _ _ x332000_1 t335 _ ?side1 ?side2 A94.out).mono ?_); (case side1 => repeat (first | exact (Kd.S_reads' HO_332000.out).2.2 | (with_reducible refine zF ?_ _) | (with_reducible refine zG ?_ _) | (with_reducible refine zH ?_))); (case side2 => exact (Kd.S_reads' HO_332000.out).2.1); rintro e w99 ⟨rfl, hb⟩; refine ⟨_, rfl, ?_⟩; have n0_ := zM (ze (by (with_reducible repeat (first | apply zI | apply zJ | apply zK)); exact HO_19.out) hb); have n1_ := zM (Kd.S_below (by (with_reducible repeat (first | apply zU | apply zV | apply zW)); exact HO_332000.out) hb); have n2_ := zM (z7 (g := gb330) (o := .cells #[.slice none 0 0] 24 (0, 0)) zk hb); have n3_ := zM (z7 (g := gb331) (o := .cells #[.slice Ao98 x332000_1.length co98] 24 (0, 0)) zk hb); have n4_ := zM (zQ zb hb); clear HO_19; clear HO_332000; clear BK330; clear BK331; clear HB; have HO_19 := n0_; have HO_332000 := n1_; have BK330 := n2_; have BK331 := n3_; have HB := n4_; clear n0_ n1_ n2_ n3_ n4_; (try clear hb); have hcz100_0 := (z5 BK330.out 0).trans rfl; have hfz100_0 := z6 BK330.out 0))
    refine bodyPost_ret (results_ct rfl _ _ gb330 24 #[.slice none 0 0] (0, 0) _ rfl (by (with_reducible repeat (first | refine zN ?_ _ | refine zO ?_ | refine zP ?_ _)); refine blk_put (cs := #[.slice none 0 0]) ?_ 0 _ rfl; (with_reducible repeat (first | refine zN ?_ _ | refine zO ?_ | refine zP ?_ _)); exact BK330.out) Tryz.underlying24 rfl (by kernel_rfl)) rfl ?_
    exact ⟨_, by first | rfl | (simp [errW_none, errW_some] <;> rfl) | (simp [*, errW_none, errW_some] <;> rfl), by first | exact Kd.S_nil _ _ _ _ _ | exact Kd.N_nil _ _ _ _ _ | exact Kd.V_nil _ _ _ _ _ | exact Kd.Q_nil _ _ _ _ _ | exact Kd.R_nil _ _ _ _ _, zb⟩
   rw [if_neg c95] at H
   have c95b0 : (t335.toList == ([] : List UInt8)) = false := beq_eq_false_iff_ne.mpr c95
   have c95b1 : (t335.toList != ([] : List UInt8)) = true := bne_iff_ne.mpr c95
   by_cases c101 : t335.toList = a0.toList
   ·rw [if_pos c101] at H
    have c101b0 : (t335.toList == a0.toList) = true := beq_iff_eq.mpr c101
    have c101b1 : (t335.toList != a0.toList) = false := bne_eq_false_iff_eq.mpr c101
    clear c101
    simp only [Option.some.injEq, Prod.mk.injEq] at H
    obtain ⟨rfl, rfl⟩ := H
    have hnb102 := NB331_330.out
    have hnc102 := NB330_331.out
    have hcz103_0 := (z5 BK331.out 0).trans rfl
    have hfz103_0 := z6 BK331.out 0
    obtain ⟨Ao104, co104, eo104⟩ := Kd.S_slice HO_332000.out
    subst eo104
    go_wp2_with (first | ((with_reducible refine gate_callee (f := 17) rfl ?_); refine goesL_ (some 74) rfl rfl Tryz.func17 (by kernel_rfl) rfl #[.agg #[.slice Ao104 x332000_1.length co104]] rfl zg ?_; (with_reducible refine (impl_ProgramText.calls k1 _ _ x332000_1 t335 _ ?side1 ?side2 A94.out).mono ?_); (case side1 => repeat (first | exact (Kd.S_reads' HO_332000.out).2.2 | (with_reducible refine zF ?_ _) | (with_reducible refine zG ?_ _) | (with_reducible refine zH ?_))); (case side2 => exact (Kd.S_reads' HO_332000.out).2.1); rintro e w105 ⟨rfl, hb⟩; refine ⟨_, rfl, ?_⟩; have n0_ := zM (ze (by (with_reducible repeat (first | apply zI | apply zJ | apply zK)); exact HO_19.out) hb); have n1_ := zM (Kd.S_below (by (with_reducible repeat (first | apply zU | apply zV | apply zW)); exact HO_332000.out) hb); have n2_ := zM (z7 (g := gb330) (o := .cells #[.slice none 0 0] 24 (0, 0)) zk hb); have n3_ := zM (z7 (g := gb331) (o := .cells #[.slice Ao104 x332000_1.length co104] 24 (0, 0)) zk hb); have n4_ := zM (zQ zb hb); clear HO_19; clear HO_332000; clear BK330; clear BK331; clear HB; have HO_19 := n0_; have HO_332000 := n1_; have BK330 := n2_; have BK331 := n3_; have HB := n4_; clear n0_ n1_ n2_ n3_ n4_; (try clear hb); have hcz106_0 := (z5 BK331.out 0).trans rfl; have hfz106_0 := z6 BK331.out 0; have hcz107_0 := (z5 BK330.out 0).trans rfl; have hfz107_0 := z6 BK330.out 0))
    refine bodyPost_ret (results_ct rfl _ _ gb330 24 #[.slice Ao104 x332000_1.length co104] (0, 0) _ rfl (by (with_reducible repeat (first | refine zN ?_ _ | refine zO ?_ | refine zP ?_ _)); refine blk_put (cs := #[.slice none 0 0]) ?_ 0 _ rfl; (with_reducible repeat (first | refine zN ?_ _ | refine zO ?_ | refine zP ?_ _)); exact BK330.out) Tryz.underlying24 rfl (by kernel_rfl)) rfl ?_
    exact ⟨_, by first | rfl | (simp [errW_none, errW_some] <;> rfl) | (simp [*, errW_none, errW_some] <;> rfl), by (with_reducible repeat (first | apply zU | apply zV | apply zW)); exact Kd.S_mono (Kd.S_far (p := ⟨gb330, 0, none⟩) (Kd.S_types HO_332000.out BK330.out (by decide)) (fun _ hk => hk.2) (.slice Ao104 x332000_1.length co104)) (fun _ hk => trivial), zb⟩
   rw [if_neg c101] at H
   have c101b0 : (t335.toList == a0.toList) = false := beq_eq_false_iff_ne.mpr c101
   have c101b1 : (t335.toList != a0.toList) = true := bne_iff_ne.mpr c101
   simp only [Option.some.injEq, Prod.mk.injEq] at H
   obtain ⟨rfl, rfl⟩ := H
   have hnb108 := NB331_330.out
   have hnc108 := NB330_331.out
   have hcz109_0 := (z5 BK331.out 0).trans rfl
   have hfz109_0 := z6 BK331.out 0
   obtain ⟨Ao110, co110, eo110⟩ := Kd.S_slice HO_332000.out
   subst eo110
   go_wp2_with (first | ((with_reducible refine gate_callee (f := 17) rfl ?_); refine goesL_ (some 74) rfl rfl Tryz.func17 (by kernel_rfl) rfl #[.agg #[.slice Ao110 x332000_1.length co110]] rfl zg ?_; (with_reducible refine (impl_ProgramText.calls k1 _ _ x332000_1 t335 _ ?side1 ?side2 A94.out).mono ?_); (case side1 => repeat (first | exact (Kd.S_reads' HO_332000.out).2.2 | (with_reducible refine zF ?_ _) | (with_reducible refine zG ?_ _) | (with_reducible refine zH ?_))); (case side2 => exact (Kd.S_reads' HO_332000.out).2.1); rintro e w111 ⟨rfl, hb⟩; refine ⟨_, rfl, ?_⟩; have n0_ := zM (ze (by (with_reducible repeat (first | apply zI | apply zJ | apply zK)); exact HO_19.out) hb); have n1_ := zM (Kd.S_below (by (with_reducible repeat (first | apply zU | apply zV | apply zW)); exact HO_332000.out) hb); have n2_ := zM (z7 (g := gb330) (o := .cells #[.slice none 0 0] 24 (0, 0)) zk hb); have n3_ := zM (z7 (g := gb331) (o := .cells #[.slice Ao110 x332000_1.length co110] 24 (0, 0)) zk hb); have n4_ := zM (zQ zb hb); clear HO_19; clear HO_332000; clear BK330; clear BK331; clear HB; have HO_19 := n0_; have HO_332000 := n1_; have BK330 := n2_; have BK331 := n3_; have HB := n4_; clear n0_ n1_ n2_ n3_ n4_; (try clear hb); have hcz112_0 := (z5 BK330.out 0).trans rfl; have hfz112_0 := z6 BK330.out 0))
   refine bodyPost_ret (results_ct rfl _ _ gb330 24 #[.slice none 0 0] (0, 0) _ rfl (by (with_reducible repeat (first | refine zN ?_ _ | refine zO ?_ | refine zP ?_ _)); refine blk_put (cs := #[.slice none 0 0]) ?_ 0 _ rfl; (with_reducible repeat (first | refine zN ?_ _ | refine zO ?_ | refine zP ?_ _)); exact BK330.out) Tryz.underlying24 rfl (by kernel_rfl)) rfl ?_
   exact ⟨_, by first | rfl | (simp [errW_none, errW_some] <;> rfl) | (simp [*, errW_none, errW_some] <;> rfl), by first | exact Kd.S_nil _ _ _ _ _ | exact Kd.N_nil _ _ _ _ _ | exact Kd.V_nil _ _ _ _ _ | exact Kd.Q_nil _ _ _ _ _ | exact Kd.R_nil _ _ _ _ _, zb⟩
end Go.Proofs.YtcpmkcidehhbiaaGreatDoor.PFnExactParseProgram
