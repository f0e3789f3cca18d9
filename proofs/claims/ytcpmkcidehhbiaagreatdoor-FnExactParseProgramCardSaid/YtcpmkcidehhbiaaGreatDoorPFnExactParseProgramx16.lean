/- Walks of the functions that a statement reaches, written by a program (the printing program, mended): no condition. -/
import Derived.Test.YtcpmkcidehhbiaaGreatDoorPFnExactParseProgramx0
import Derived.Test.YtcpmkcidehhbiaaGreatDoorPFnExactParseProgramx12
import Derived.Test.YtcpmkcidehhbiaaGreatDoorPFnExactParseProgramx13
import Derived.Test.YtcpmkcidehhbiaaGreatDoorPFnExactParseProgramx15
namespace Go.Proofs.YtcpmkcidehhbiaaGreatDoor.PFnExactParseProgram
open Go.RowKit Go.Proofs.YtcpmkcidehhbiaaGreatDoorW.PrintWords Go.Proofs.YtcpmkcidehhbiaaGreatDoorW.PrintLast Go.Proofs.YtcpmkcidehhbiaaGreatDoorW.PrintMore
attribute [local go_sem] max2_int min2_int max_two min_two max_three min_three max_four min_four
set_option linter.unusedVariables false
set_option maxRecDepth 100000
set_option maxHeartbeats 8000000
set_option linter.unusedSimpArgs false
def impl_parseTaskLine.at (s : ByteArray) (j : Nat) : Int := impl_parseStmt.atv ((impl_parseStmt.wsOf s).getD j ByteArray.empty)
def impl_parseTaskLine.f (k : Nat) (s : ByteArray) : Option (Int × Int × Int × Bool) :=
 if s.size < 4294967281 then
  if Lib.countB s ⟨#[32]⟩ = 3 then
   (impl_ExprOk.f (impl_parseTaskLine.at s 1) (impl_parseTaskLine.at s 2) (impl_parseTaskLine.at s 3)).bind fun t => if t = true then (impl_taskLine.f k (impl_parseTaskLine.at s 1) (impl_parseTaskLine.at s 2) (impl_parseTaskLine.at s 3)).bind fun u => some (impl_parseTaskLine.at s 1, impl_parseTaskLine.at s 2, impl_parseTaskLine.at s 3, u.toList == s.toList) else some (impl_parseTaskLine.at s 1, impl_parseTaskLine.at s 2, impl_parseTaskLine.at s 3, false)
  else some (0, 0, 0, false)
 else none
theorem impl_parseTaskLine.mono : ∀ a0 k, LeO (impl_parseTaskLine.f k a0) (impl_parseTaskLine.f (k + 1) a0) := by
 intro a0 k
 unfold impl_parseTaskLine.f
 exact LeO.ite (LeO.ite (LeO.bind (LeO.refl _) (fun _ => LeO.ite (LeO.bind (impl_taskLine.mono _ _ _ _) (fun _ => LeO.refl _)) (LeO.refl _))) (LeO.refl _)) (LeO.none _)
def impl_parseTaskLine.T : Bool × List (List Nat × List Nat) := (true, [([], []), ([], []), ([1], [1]), ([2, 2], [2]), ([3], [3]), ([4, 3, 3], [3, 4]), ([3], [3]), ([5, 6, 3], [3, 5, 6]), ([3, 7], [3, 7]), ([0, 5, 0], [0]), ([8, 9, 0, 1, 2, 3, 4, 5, 6, 7, 8, 9], [8])])
def impl_parseTaskLine.B : List Nat := [0, 0, 2, 6, 14, 30, 14, 126, 254, 63, 1023]
theorem impl_parseTaskLine.tab : rtab .any (opsOf Tryz.f15 10) = impl_parseTaskLine.T := by kernel_rfl
theorem impl_parseTaskLine.bits : waitsOk impl_parseTaskLine.T.2 impl_parseTaskLine.B = true := by kernel_rfl
theorem impl_parseTaskLine.word_cell {w1 : World} {b t : Nat} {l : List ByteArray} (h : w1.heap[b]? = some (.cells (l.map Value.string).toArray t (0, 0))) (j : Nat) (hj : j < l.length) : w1.cell? ⟨b, j, none⟩ = some (.string (l.getD j ByteArray.empty)) := by
 refine (z5 h j).trans ?_
 simp only [List.getElem?_toArray, List.getElem?_map, List.getD_eq_getElem?_getD]
 rw [List.getElem?_eq_getElem hj]
 rfl
theorem impl_parseTaskLine.calls (k : Nat) (s : ByteArray) (r1 r2 r3 : Int) (r4 : Bool) (w : World) (h : impl_parseTaskLine.f k s = some (r1, r2, r3, r4)) (hGL : GL w := by first | exact HGL.out | exact GL.below HGL.out (by repeat (first | (with_reducible first | exact HB.out | apply z2 | apply z3 | apply z4 | refine zS ?_ (Aside0.out (by assumption))) | exact HB.out))) :
  Calls Tryz.prog 15 #[.string s] w fun e w' => e = .returned (.tuple #[.agg #[.int .i64 r1, .int .i64 r2, .int .i64 r3], .bool r4]) ∧ Below w.heap.size w w' := by
 unfold impl_parseTaskLine.f at h
 by_cases hs : s.size < 4294967281
 ·rw [if_pos hs] at h
  obtain ⟨n, hn⟩ : ∃ n, Lib.countB s ⟨#[32]⟩ = n := ⟨_, rfl⟩
  rw [hn] at h
  have HC := zM (show ∀ W, Calls Tryz.prog 30 #[.string s, .string ⟨#[32]⟩] W fun e w' => e = .returned (.slice (some ⟨W.heap.size, 0, none⟩) (n + 1) (n + 1)) ∧ w' = W.alloc (.cells ((impl_parseStmt.wsOf s).map Value.string).toArray 9) by
   intro W; rw [← hn]; exact Tryz.strings_Split_one s 32 W hs)
  have HLen := zM (show (impl_parseStmt.wsOf s).length = n + 1 by rw [← hn]; exact Lib.splitB_all ⟨#[32]⟩ (Nat.le_refl 1) 0 _ s rfl)
  have HS := zM hs
  clear hn hs
  have HG := zM hGL
  clear hGL
  by_cases hn3 : n = 3
  ·subst hn3
   rw [if_pos rfl] at h
   have hz1 := impl_parseStmt.word_size s 1
   have hz2 := impl_parseStmt.word_size s 2
   have hz3 := impl_parseStmt.word_size s 3
   obtain ⟨y1, hy1⟩ : ∃ v, (impl_parseStmt.wsOf s).getD 1 ByteArray.empty = v := ⟨_, rfl⟩
   obtain ⟨y2, hy2⟩ : ∃ v, (impl_parseStmt.wsOf s).getD 2 ByteArray.empty = v := ⟨_, rfl⟩
   obtain ⟨y3, hy3⟩ : ∃ v, (impl_parseStmt.wsOf s).getD 3 ByteArray.empty = v := ⟨_, rfl⟩
   unfold impl_parseTaskLine.at at h
   rw [hy1] at hz1
   rw [hy2] at hz2
   rw [hy3] at hz3
   rw [hy1, hy2, hy3] at h
   have HSY := zM (show y1.size ≤ 281474976710656 ∧ y2.size ≤ 281474976710656 ∧ y3.size ≤ 281474976710656 from ⟨by have := HS.out; omega, by have := HS.out; omega, by have := HS.out; omega⟩)
   clear hz1 hz2 hz3
   have HY := zM (And.intro hy1 (And.intro hy2 hy3))
   clear hy1 hy2 hy3
   obtain ⟨v1, hv1⟩ : ∃ v, impl_parseStmt.atv y1 = v := ⟨_, rfl⟩
   obtain ⟨v2, hv2⟩ : ∃ v, impl_parseStmt.atv y2 = v := ⟨_, rfl⟩
   obtain ⟨v3, hv3⟩ : ∃ v, impl_parseStmt.atv y3 = v := ⟨_, rfl⟩
   rw [hv1, hv2, hv3] at h
   have HGs : Aside0 (∀ W, Below w.heap.size w W → (∃ tp p, W.var? Tryz.prog "strconv.ErrSyntax" = some #[.iface tp p]) ∧ (∃ tp p, W.var? Tryz.prog "strconv.ErrRange" = some #[.iface tp p])) := ⟨fun W hb => ⟨(GL.below HG.out hb).syn, (GL.below HG.out hb).ran⟩⟩
   have HV1 := zM hv1
   have HV2 := zM hv2
   have HV3 := zM hv3
   have HH := zM h
   clear h hv1 hv2 hv3
   go_enter Tryz.func15, Tryz.ntmps15
   go_wp2_with (first | (go_at_call 30; (with_reducible refine (HC.out _).mono ?_); rintro e w1 ⟨rfl, hw⟩; have HRb := zM (show w1.heap[w.heap.size]? = some (.cells #[.int .i64 0, .int .i64 0, .int .i64 0] 31 (0, 0)) from by rw [hw]; exact zP (blk_new w _) _); have HB1 := zM (show Below w.heap.size w w1 from by rw [hw]; exact z2 (z2 (Below.refl _ _) _) _); have HZ := zM (show w1.heap.size = w.heap.size + 2 from by rw [hw]; simp); have HWb := zM (show w1.heap[w.heap.size + 1]? = some (.cells ((impl_parseStmt.wsOf s).map Value.string).toArray 9 (0, 0)) from by rw [hw]; exact (by simp : (w.alloc (.cells #[.int .i64 0, .int .i64 0, .int .i64 0] 31)).heap.size = w.heap.size + 1) ▸ blk_new (w.alloc (.cells #[.int .i64 0, .int .i64 0, .int .i64 0] 31)) _); have HW1 := zM (show w1.cell? ⟨w.heap.size + 1, 1, none⟩ = some (.string y1) from (impl_parseTaskLine.word_cell HWb.out 1 (by rw [HLen.out]; decide)).trans (by rw [HY.out.1])); have HW2 := zM (show w1.cell? ⟨w.heap.size + 1, 2, none⟩ = some (.string y2) from (impl_parseTaskLine.word_cell HWb.out 2 (by rw [HLen.out]; decide)).trans (by rw [HY.out.2.1])); have HW3 := zM (show w1.cell? ⟨w.heap.size + 1, 3, none⟩ = some (.string y3) from (impl_parseTaskLine.word_cell HWb.out 3 (by rw [HLen.out]; decide)).trans (by rw [HY.out.2.2])); clear hw))
   go_loopg [20] 3 (fun kq v20 wr => ∃ (x c0 c1 c2 : Int), v20 = .int .i64 x ∧ Aside0 (x + kq = 3 ∧ 0 ≤ x) ∧ Aside0 ((0 < x → c0 = v1) ∧ (1 < x → c1 = v2) ∧ (2 < x → c2 = v3)) ∧ Aside0 (wr.heap[w1.heap.size]? = some (.cells #[.int .i64 c0, .int .i64 c1, .int .i64 c2] 31 (0, 0))) ∧ Aside0 (wr.heap[w1.heap.size + 1]? = some (.cells #[.pointer (some ⟨w1.heap.size, 0, none⟩), .pointer (some ⟨w1.heap.size, 1, none⟩), .pointer (some ⟨w1.heap.size, 2, none⟩)] 61 (0, 0))) ∧ Aside0 (Below w1.heap.size w1 wr))
   case atStart => exact ⟨0, 0, 0, 0, rfl, ⟨by omega⟩, ⟨fun z => absurd z (by decide), fun z => absurd z (by decide), fun z => absurd z (by decide)⟩, ⟨zP (blk_new w1 _) _⟩, ⟨(by simp : (w1.alloc (.cells #[.int .i64 0, .int .i64 0, .int .i64 0] 31)).heap.size = w1.heap.size + 1) ▸ blk_new (w1.alloc (.cells #[.int .i64 0, .int .i64 0, .int .i64 0] 31)) _⟩, ⟨z2 (z2 (Below.refl _ _) _) _⟩⟩
   case round =>
    obtain ⟨x, c0, c1, c2, rfl, HX, HV, HE, HP, HBr⟩ := hrel
    rcases (show x = 0 ∨ x = 1 ∨ x = 2 ∨ x = 3 by have := HX.out; omega) with hx | hx | hx | hx
    ·subst hx
     obtain ⟨k1, rfl⟩ : ∃ m, gk = m + 1 := ⟨gk - 1, by have := HX.out; omega⟩
     have hp := (z5 HP.out 0).trans (show _ = some (Value.pointer (some ⟨w1.heap.size, 0, none⟩)) from rfl)
     have hwr := (HBr.out.cell (zm _ _ HW1.out)).trans HW1.out
     have hgg := HGs.out wr (HB1.out.trans (HBr.out.mono (by have := HZ.out; omega)))
     have HG9 := zM hgg
     clear hgg
     go_wp2_with (first | (go_at_call 31; have hca := impl_parseStmt.atoi_calls y1 HSY.out.1 wr HG9.out.1 HG9.out.2; (with_reducible refine hca.mono ?_); clear hca; rintro e w9 ⟨⟨xe, rfl⟩, hb⟩; have HE9 := zM (z7 HE.out hb); have HP9 := zM (z7 HP.out hb); have HB9 := zM (zQ HBr.out hb); have hcs : w9.cell? ⟨w1.heap.size, 0, none⟩ = some (.int .i64 c0) := (z5 HE9.out 0).trans rfl; have hfs := z6 HE9.out 0; clear hb))
     go_roundg k1
     case measure => omega
     case rel =>
      exact ⟨1, _, c1, c2, rfl, ⟨by have := HX.out; omega⟩, ⟨fun _ => HV1.out, fun z => absurd z (by decide), fun z => absurd z (by decide)⟩, ⟨blk_put (cs := #[.int .i64 c0, .int .i64 c1, .int .i64 c2]) HE9.out 0 _ rfl⟩, ⟨(Below.heap_setCell w9 ⟨w1.heap.size, 0, none⟩ _ (w1.heap.size + 1) (by simp)).trans HP9.out⟩, ⟨zS HB9.out (Nat.le_refl _)⟩⟩
    ·subst hx
     obtain ⟨k1, rfl⟩ : ∃ m, gk = m + 1 := ⟨gk - 1, by have := HX.out; omega⟩
     have hp := (z5 HP.out 1).trans (show _ = some (Value.pointer (some ⟨w1.heap.size, 1, none⟩)) from rfl)
     have hwr := (HBr.out.cell (zm _ _ HW2.out)).trans HW2.out
     have hgg := HGs.out wr (HB1.out.trans (HBr.out.mono (by have := HZ.out; omega)))
     have HG9 := zM hgg
     clear hgg
     go_wp2_with (first | (go_at_call 31; have hca := impl_parseStmt.atoi_calls y2 HSY.out.2.1 wr HG9.out.1 HG9.out.2; (with_reducible refine hca.mono ?_); clear hca; rintro e w9 ⟨⟨xe, rfl⟩, hb⟩; have HE9 := zM (z7 HE.out hb); have HP9 := zM (z7 HP.out hb); have HB9 := zM (zQ HBr.out hb); have hcs : w9.cell? ⟨w1.heap.size, 1, none⟩ = some (.int .i64 c1) := (z5 HE9.out 1).trans rfl; have hfs := z6 HE9.out 1; clear hb))
     go_roundg k1
     case measure => omega
     case rel =>
      exact ⟨2, c0, _, c2, rfl, ⟨by have := HX.out; omega⟩, ⟨fun _ => HV.out.1 (by decide), fun _ => HV2.out, fun z => absurd z (by decide)⟩, ⟨blk_put (cs := #[.int .i64 c0, .int .i64 c1, .int .i64 c2]) HE9.out 1 _ rfl⟩, ⟨(Below.heap_setCell w9 ⟨w1.heap.size, 1, none⟩ _ (w1.heap.size + 1) (by simp)).trans HP9.out⟩, ⟨zS HB9.out (Nat.le_refl _)⟩⟩
    ·subst hx
     obtain ⟨k1, rfl⟩ : ∃ m, gk = m + 1 := ⟨gk - 1, by have := HX.out; omega⟩
     have hp := (z5 HP.out 2).trans (show _ = some (Value.pointer (some ⟨w1.heap.size, 2, none⟩)) from rfl)
     have hwr := (HBr.out.cell (zm _ _ HW3.out)).trans HW3.out
     have hgg := HGs.out wr (HB1.out.trans (HBr.out.mono (by have := HZ.out; omega)))
     have HG9 := zM hgg
     clear hgg
     go_wp2_with (first | (go_at_call 31; have hca := impl_parseStmt.atoi_calls y3 HSY.out.2.2 wr HG9.out.1 HG9.out.2; (with_reducible refine hca.mono ?_); clear hca; rintro e w9 ⟨⟨xe, rfl⟩, hb⟩; have HE9 := zM (z7 HE.out hb); have HP9 := zM (z7 HP.out hb); have HB9 := zM (zQ HBr.out hb); have hcs : w9.cell? ⟨w1.heap.size, 2, none⟩ = some (.int .i64 c2) := (z5 HE9.out 2).trans rfl; have hfs := z6 HE9.out 2; clear hb))
     go_roundg k1
     case measure => omega
     case rel =>
      exact ⟨3, c0, c1, _, rfl, ⟨by have := HX.out; omega⟩, ⟨fun _ => HV.out.1 (by decide), fun _ => HV.out.2.1 (by decide), fun _ => HV3.out⟩, ⟨blk_put (cs := #[.int .i64 c0, .int .i64 c1, .int .i64 c2]) HE9.out 2 _ rfl⟩, ⟨(Below.heap_setCell w9 ⟨w1.heap.size, 2, none⟩ _ (w1.heap.size + 1) (by simp)).trans HP9.out⟩, ⟨zS HB9.out (Nat.le_refl _)⟩⟩
    subst hx
    have h1 := HV.out.1 (by decide)
    have h2 := HV.out.2.1 (by decide)
    have h3 := HV.out.2.2 (by decide)
    subst h1 h2 h3
    clear HV
    go_wp2
    obtain ⟨t, hA, h⟩ := Option.bind_eq_some_iff.mp HH.out
    have HA := zM hA
    clear hA HH
    cases t with
    | true =>
     rw [if_pos rfl] at h
     obtain ⟨u, hU, h⟩ := Option.bind_eq_some_iff.mp h
     have HU := zM hU
     clear hU
     simp only [Option.some.injEq, Prod.mk.injEq] at h
     obtain ⟨rfl, rfl, rfl, rfl⟩ := h
     have HB := zM (z4 (HB1.out.trans (HBr.out.mono (by have := HZ.out; omega))))
     have BKR := zM (zO ((HBr.out.block w.heap.size (by have := HZ.out; omega)).trans HRb.out))
     have BKE := zM (zO HE.out)
     have HN := zM (show w1.heap.size ≠ w.heap.size by have := HZ.out; omega)
     have HM := zM (show w.heap.size ≠ w1.heap.size by have := HZ.out; omega)
     have GEe := zM (show w.heap.size ≤ w1.heap.size by have := HZ.out; omega)
     clear HE HP HBr HW1 HW2 HW3 HB1 HWb HZ HRb
     refine start_ (n := 11) (S := fun w' => w'.cell? ⟨w1.heap.size, 0, none⟩ = some (.int .i64 c0) ∧ w'.cell? ⟨w1.heap.size, 1, none⟩ = some (.int .i64 c1) ∧ w'.cell? ⟨w1.heap.size, 2, none⟩ = some (.int .i64 c2)) (ds := []) #[false, false, false, false, false, false, false, false, false, false, false] (by kernel_rfl) rfl rfl ⟨(z5 BKE.out 0).trans rfl, (z5 BKE.out 1).trans rfl, (z5 BKE.out 2).trans rfl⟩ (fun hHeld => ?_); refine with_tabW impl_parseTaskLine.tab impl_parseTaskLine.bits (fun HT_ HW_ => ?_)
     generalize wr.drew = w31 at BKR BKE HB hHeld ⊢
     refine take_ (i := 0) (N := some 37) (v := ?_) (a' := ?_) #[true, false, false, false, false, false, false, false, false, false, false] rfl rfl (take_ofW HT_.out HW_.out (by kernel_rfl)) (fun _ _ _ h => h) (Or.inl ⟨by rfl, ?_⟩) hHeld ?_ ?_
     rotate_left
     ·rintro w' ⟨s0, s1, s2⟩
      go_simp
      with_reducible rfl
     rotate_left
     ·exact zu
     refine take_ (i := 1) (N := some 38) (v := ?_) (a' := ?_) #[true, true, false, false, false, false, false, false, false, false, false] rfl rfl (take_ofW HT_.out HW_.out (by kernel_rfl)) (fun _ _ _ h => h) (Or.inl ⟨by rfl, ?_⟩) hHeld ?_ ?_
     rotate_left
     ·rintro w' ⟨s0, s1, s2⟩
      go_simp
      with_reducible rfl
     rotate_left
     ·exact zu
     refine one_ (i := 2) (N := some 39) #[true, true, true, false, false, false, false, false, false, false, false] rfl rfl (one_of HT_.out (by kernel_rfl)) (by decide) (fun K hK => ?_)
     refine goes_ Tryz.func32 (by kernel_rfl) rfl #[.agg #[.int .i64 c0, .int .i64 c1, .int .i64 c2]] (by rfl) rfl rfl (by (try simp only [List.map_toArray, List.map_cons, List.map_nil]); first | done | rfl) ?_
     with_reducible refine (impl_ExprOk.calls c0 c1 c2 true _ HA.out).mono ?_
     rintro e w32 ⟨rfl, hb⟩
     refine ⟨_, rfl, ?_⟩
     have n1_ := zM (z7 (g := w.heap.size) (o := .cells #[.int .i64 0, .int .i64 0, .int .i64 0] 31 (0, 0)) BKR.out hb)
     have n2_ := zM (z7 (g := w1.heap.size) (o := .cells #[.int .i64 c0, .int .i64 c1, .int .i64 c2] 31 (0, 0)) BKE.out hb)
     have n3_ := zM (zQ HB.out hb)
     clear BKR BKE HB hb hHeld
     have BKR := n1_
     have BKE := n2_
     have HB := n3_
     clear n1_ n2_ n3_
     refine hK.out _ _ ⟨(z5 BKE.out 0).trans rfl, (z5 BKE.out 1).trans rfl, (z5 BKE.out 2).trans rfl⟩ (fun hHeld => ?_)
     clear hK K
     refine norm_ (a' := ?_) ?_ ?_
     rotate_left
     ·show Act.put _ (some 39) _ = _
      exact zu
     refine pure_ (i := 3) (N := some 40) (v := ?_) (a' := ?_) #[true, true, true, true, false, false, false, false, false, false, false] rfl rfl (any_of HT_.out (by kernel_rfl)) (fun _ _ _ h => h) (Or.inl ⟨by rfl, ?_⟩) ?_ ?_
     rotate_left
     ·intro w'
      go_simp
      with_reducible rfl
     rotate_left
     ·exact zu
     refine pure_ (i := 6) (N := some 43) (v := ?_) (a' := ?_) #[true, true, true, true, false, false, true, false, false, false, false] rfl rfl (any_of HT_.out (by kernel_rfl)) (fun _ _ _ h => h) (Or.inl ⟨by rfl, ?_⟩) ?_ ?_
     rotate_left
     ·intro w'
      go_simp
      with_reducible rfl
     rotate_left
     ·exact zu
     refine take_ (i := 4) (N := some 41) (v := ?_) (a' := ?_) #[true, true, true, true, true, false, true, false, false, false, false] rfl rfl (take_ofW HT_.out HW_.out (by kernel_rfl)) (fun _ _ _ h => h) (Or.inl ⟨by rfl, ?_⟩) hHeld ?_ ?_
     rotate_left
     ·rintro w' ⟨s0, s1, s2⟩
      go_simp
      with_reducible rfl
     rotate_left
     ·exact zu
     refine one_ (i := 5) (N := some 42) #[true, true, true, true, true, true, true, false, false, false, false] rfl rfl (one_of HT_.out (by kernel_rfl)) (by decide) (fun K hK => ?_)
     refine goes_ Tryz.func33 (by kernel_rfl) rfl #[.agg #[.int .i64 c0, .int .i64 c1, .int .i64 c2]] (by rfl) rfl rfl (by (try simp only [List.map_toArray, List.map_cons, List.map_nil]); first | done | rfl) ?_
     with_reducible refine (impl_taskLine.calls k c0 c1 c2 u _ HU.out (GL.below HG.out HB.out)).mono ?_
     rintro e w33 ⟨rfl, hb⟩
     refine ⟨_, rfl, ?_⟩
     have n1_ := zM (z7 (g := w.heap.size) (o := .cells #[.int .i64 0, .int .i64 0, .int .i64 0] 31 (0, 0)) BKR.out hb)
     have n2_ := zM (z7 (g := w1.heap.size) (o := .cells #[.int .i64 c0, .int .i64 c1, .int .i64 c2] 31 (0, 0)) BKE.out hb)
     have n3_ := zM (zQ HB.out hb)
     clear BKR BKE HB hb hHeld
     have BKR := n1_
     have BKE := n2_
     have HB := n3_
     clear n1_ n2_ n3_
     refine hK.out _ _ ⟨(z5 BKE.out 0).trans rfl, (z5 BKE.out 1).trans rfl, (z5 BKE.out 2).trans rfl⟩ (fun hHeld => ?_)
     clear hK K
     refine norm_ (a' := ?_) ?_ ?_
     rotate_left
     ·show Act.put _ (some 42) _ = _
      exact zu
     refine pure_ (i := 7) (N := some 44) (v := ?_) (a' := ?_) #[true, true, true, true, true, true, true, true, false, false, false] rfl rfl (any_of HT_.out (by kernel_rfl)) (fun _ _ _ h => h) (Or.inl ⟨by rfl, ?_⟩) ?_ ?_
     rotate_left
     ·intro w'
      go_simp
      with_reducible rfl
     rotate_left
     ·exact zu
     refine pure_ (i := 8) (N := some 45) (v := ?_) (a' := ?_) #[true, true, true, true, true, true, true, true, true, false, false] rfl rfl (any_of HT_.out (by kernel_rfl)) (fun _ _ _ h => h) (Or.inl ⟨by rfl, ?_⟩) ?_ ?_
     rotate_left
     ·intro w'
      go_simp
      with_reducible rfl
     rotate_left
     ·exact zu
     refine one_ (i := 9) (N := none) #[true, true, true, true, true, true, true, true, true, true, false] rfl rfl (one_of HT_.out (by kernel_rfl)) (by decide) (fun K hK => ?_)
     have hs0 : w33.cell? ⟨w.heap.size, 0, none⟩ = some (.int .i64 0) := (z5 BKR.out 0).trans rfl
     have hfs0 := z6 BKR.out 0
     have hs1 : w33.cell? ⟨w.heap.size, 1, none⟩ = some (.int .i64 0) := (z5 BKR.out 1).trans rfl
     have hfs1 := z6 BKR.out 1
     have hs2 : w33.cell? ⟨w.heap.size, 2, none⟩ = some (.int .i64 0) := (z5 BKR.out 2).trans rfl
     have hfs2 := z6 BKR.out 2
     have hns := HN.out
     have hms := HM.out
     refine skip_ (w1 := ?_) (by rfl) rfl ?_ ?_
     rotate_left
     ·go_simp
      rfl
     refine hK.out _ _ ⟨(cell_far (p := ⟨w.heap.size, _, none⟩) HN.out _).trans ((cell_far (p := ⟨w.heap.size, _, none⟩) HN.out _).trans ((cell_far (p := ⟨w.heap.size, _, none⟩) HN.out _).trans (hHeld.1))), (cell_far (p := ⟨w.heap.size, _, none⟩) HN.out _).trans ((cell_far (p := ⟨w.heap.size, _, none⟩) HN.out _).trans ((cell_far (p := ⟨w.heap.size, _, none⟩) HN.out _).trans (hHeld.2.1))), (cell_far (p := ⟨w.heap.size, _, none⟩) HN.out _).trans ((cell_far (p := ⟨w.heap.size, _, none⟩) HN.out _).trans ((cell_far (p := ⟨w.heap.size, _, none⟩) HN.out _).trans (hHeld.2.2)))⟩ (fun hHeld => ?_)
     clear hK K
     refine pure_ (i := 10) (N := some 3) (v := ?_) (a' := ?_) #[true, true, true, true, true, true, true, true, true, true, true] rfl rfl (any_of HT_.out (by kernel_rfl)) (fun _ _ _ h => h) (Or.inl ⟨by rfl, ?_⟩) ?_ ?_
     rotate_left
     ·intro w'
      go_simp
      with_reducible rfl
     rotate_left
     ·exact zu
     refine done_ (done_of HT_.out (by kernel_rfl)) ?_
     try go_wp2
     refine bodyPost_ret (results_ct rfl _ _ w.heap.size 31 #[.int .i64 c0, .int .i64 c1, .int .i64 c2] (0, 0) _ rfl (by (with_reducible repeat (first | refine zN ?_ _ | refine zO ?_ | refine zP ?_ _)); refine blk_put (cs := #[.int .i64 c0, .int .i64 c1, .int .i64 0]) ?_ 2 _ rfl; (with_reducible repeat (first | refine zN ?_ _ | refine zO ?_ | refine zP ?_ _)); refine blk_put (cs := #[.int .i64 c0, .int .i64 0, .int .i64 0]) ?_ 1 _ rfl; (with_reducible repeat (first | refine zN ?_ _ | refine zO ?_ | refine zP ?_ _)); refine blk_put (cs := #[.int .i64 0, .int .i64 0, .int .i64 0]) ?_ 0 _ rfl; (with_reducible repeat (first | refine zN ?_ _ | refine zO ?_ | refine zP ?_ _)); exact BKR.out) Tryz.underlying31 rfl (by kernel_rfl)) rfl ?_
     exact ⟨by first | rfl | (simp <;> rfl), by repeat (first | (with_reducible first | exact HB.out | apply z2 | apply z3 | apply z4 | refine zS ?_ (Nat.le_refl _)) | exact HB.out)⟩
    | false =>
     rw [if_neg (by decide)] at h
     simp only [Option.some.injEq, Prod.mk.injEq] at h
     obtain ⟨rfl, rfl, rfl, rfl⟩ := h
     have HB := zM (z4 (HB1.out.trans (HBr.out.mono (by have := HZ.out; omega))))
     have BKR := zM (zO ((HBr.out.block w.heap.size (by have := HZ.out; omega)).trans HRb.out))
     have BKE := zM (zO HE.out)
     have HN := zM (show w1.heap.size ≠ w.heap.size by have := HZ.out; omega)
     have HM := zM (show w.heap.size ≠ w1.heap.size by have := HZ.out; omega)
     have GEe := zM (show w.heap.size ≤ w1.heap.size by have := HZ.out; omega)
     clear HE HP HBr HW1 HW2 HW3 HB1 HWb HZ HRb
     refine start_ (n := 11) (S := fun w' => w'.cell? ⟨w1.heap.size, 0, none⟩ = some (.int .i64 c0) ∧ w'.cell? ⟨w1.heap.size, 1, none⟩ = some (.int .i64 c1) ∧ w'.cell? ⟨w1.heap.size, 2, none⟩ = some (.int .i64 c2)) (ds := []) #[false, false, false, false, false, false, false, false, false, false, false] (by kernel_rfl) rfl rfl ⟨(z5 BKE.out 0).trans rfl, (z5 BKE.out 1).trans rfl, (z5 BKE.out 2).trans rfl⟩ (fun hHeld => ?_); refine with_tabW impl_parseTaskLine.tab impl_parseTaskLine.bits (fun HT_ HW_ => ?_)
     generalize wr.drew = w31 at BKR BKE HB hHeld ⊢
     refine take_ (i := 0) (N := some 37) (v := ?_) (a' := ?_) #[true, false, false, false, false, false, false, false, false, false, false] rfl rfl (take_ofW HT_.out HW_.out (by kernel_rfl)) (fun _ _ _ h => h) (Or.inl ⟨by rfl, ?_⟩) hHeld ?_ ?_
     rotate_left
     ·rintro w' ⟨s0, s1, s2⟩
      go_simp
      with_reducible rfl
     rotate_left
     ·exact zu
     refine take_ (i := 1) (N := some 38) (v := ?_) (a' := ?_) #[true, true, false, false, false, false, false, false, false, false, false] rfl rfl (take_ofW HT_.out HW_.out (by kernel_rfl)) (fun _ _ _ h => h) (Or.inl ⟨by rfl, ?_⟩) hHeld ?_ ?_
     rotate_left
     ·rintro w' ⟨s0, s1, s2⟩
      go_simp
      with_reducible rfl
     rotate_left
     ·exact zu
     refine one_ (i := 2) (N := some 39) #[true, true, true, false, false, false, false, false, false, false, false] rfl rfl (one_of HT_.out (by kernel_rfl)) (by decide) (fun K hK => ?_)
     refine goes_ Tryz.func32 (by kernel_rfl) rfl #[.agg #[.int .i64 c0, .int .i64 c1, .int .i64 c2]] (by rfl) rfl rfl (by (try simp only [List.map_toArray, List.map_cons, List.map_nil]); first | done | rfl) ?_
     with_reducible refine (impl_ExprOk.calls c0 c1 c2 false _ HA.out).mono ?_
     rintro e w32 ⟨rfl, hb⟩
     refine ⟨_, rfl, ?_⟩
     have n1_ := zM (z7 (g := w.heap.size) (o := .cells #[.int .i64 0, .int .i64 0, .int .i64 0] 31 (0, 0)) BKR.out hb)
     have n2_ := zM (z7 (g := w1.heap.size) (o := .cells #[.int .i64 c0, .int .i64 c1, .int .i64 c2] 31 (0, 0)) BKE.out hb)
     have n3_ := zM (zQ HB.out hb)
     clear BKR BKE HB hb hHeld
     have BKR := n1_
     have BKE := n2_
     have HB := n3_
     clear n1_ n2_ n3_
     refine hK.out _ _ ⟨(z5 BKE.out 0).trans rfl, (z5 BKE.out 1).trans rfl, (z5 BKE.out 2).trans rfl⟩ (fun hHeld => ?_)
     clear hK K
     refine norm_ (a' := ?_) ?_ ?_
     rotate_left
     ·show Act.put _ (some 39) _ = _
      exact zu
     refine pure_ (i := 3) (N := some 40) (v := ?_) (a' := ?_) #[true, true, true, true, false, false, false, false, false, false, false] rfl rfl (any_of HT_.out (by kernel_rfl)) (fun _ _ _ h => h) (Or.inl ⟨by rfl, ?_⟩) ?_ ?_
     rotate_left
     ·intro w'
      go_simp
      with_reducible rfl
     rotate_left
     ·exact zu
     refine pure_ (i := 4) (N := some 41) (v := undef) (a' := ?_) #[true, true, true, true, true, false, false, false, false, false, false] rfl rfl (any_of HT_.out (by kernel_rfl)) (fun _ _ _ h => h) (Or.inr ⟨by rfl, rfl⟩) ?_ ?_
     rotate_left
     ·exact zu
     refine pure_ (i := 5) (N := some 42) (v := undef) (a' := ?_) #[true, true, true, true, true, true, false, false, false, false, false] rfl rfl (any_of HT_.out (by kernel_rfl)) (fun _ _ _ h => h) (Or.inr ⟨by rfl, rfl⟩) ?_ ?_
     rotate_left
     ·exact zu
     refine pure_ (i := 6) (N := some 43) (v := undef) (a' := ?_) #[true, true, true, true, true, true, true, false, false, false, false] rfl rfl (any_of HT_.out (by kernel_rfl)) (fun _ _ _ h => h) (Or.inr ⟨by rfl, rfl⟩) ?_ ?_
     rotate_left
     ·exact zu
     refine pure_ (i := 7) (N := some 44) (v := undef) (a' := ?_) #[true, true, true, true, true, true, true, true, false, false, false] rfl rfl (any_of HT_.out (by kernel_rfl)) (fun _ _ _ h => h) (Or.inr ⟨by rfl, rfl⟩) ?_ ?_
     rotate_left
     ·exact zu
     refine pure_ (i := 8) (N := some 45) (v := ?_) (a' := ?_) #[true, true, true, true, true, true, true, true, true, false, false] rfl rfl (any_of HT_.out (by kernel_rfl)) (fun _ _ _ h => h) (Or.inl ⟨by rfl, ?_⟩) ?_ ?_
     rotate_left
     ·intro w'
      go_simp
      with_reducible rfl
     rotate_left
     ·exact zu
     refine one_ (i := 9) (N := none) #[true, true, true, true, true, true, true, true, true, true, false] rfl rfl (one_of HT_.out (by kernel_rfl)) (by decide) (fun K hK => ?_)
     have hs0 : w32.cell? ⟨w.heap.size, 0, none⟩ = some (.int .i64 0) := (z5 BKR.out 0).trans rfl
     have hfs0 := z6 BKR.out 0
     have hs1 : w32.cell? ⟨w.heap.size, 1, none⟩ = some (.int .i64 0) := (z5 BKR.out 1).trans rfl
     have hfs1 := z6 BKR.out 1
     have hs2 : w32.cell? ⟨w.heap.size, 2, none⟩ = some (.int .i64 0) := (z5 BKR.out 2).trans rfl
     have hfs2 := z6 BKR.out 2
     have hns := HN.out
     have hms := HM.out
     refine skip_ (w1 := ?_) (by rfl) rfl ?_ ?_
     rotate_left
     ·go_simp
      rfl
     refine hK.out _ _ ⟨(cell_far (p := ⟨w.heap.size, _, none⟩) HN.out _).trans ((cell_far (p := ⟨w.heap.size, _, none⟩) HN.out _).trans ((cell_far (p := ⟨w.heap.size, _, none⟩) HN.out _).trans (hHeld.1))), (cell_far (p := ⟨w.heap.size, _, none⟩) HN.out _).trans ((cell_far (p := ⟨w.heap.size, _, none⟩) HN.out _).trans ((cell_far (p := ⟨w.heap.size, _, none⟩) HN.out _).trans (hHeld.2.1))), (cell_far (p := ⟨w.heap.size, _, none⟩) HN.out _).trans ((cell_far (p := ⟨w.heap.size, _, none⟩) HN.out _).trans ((cell_far (p := ⟨w.heap.size, _, none⟩) HN.out _).trans (hHeld.2.2)))⟩ (fun hHeld => ?_)
     clear hK K
     refine pure_ (i := 10) (N := some 3) (v := ?_) (a' := ?_) #[true, true, true, true, true, true, true, true, true, true, true] rfl rfl (any_of HT_.out (by kernel_rfl)) (fun _ _ _ h => h) (Or.inl ⟨by rfl, ?_⟩) ?_ ?_
     rotate_left
     ·intro w'
      go_simp
      with_reducible rfl
     rotate_left
     ·exact zu
     refine done_ (done_of HT_.out (by kernel_rfl)) ?_
     try go_wp2
     refine bodyPost_ret (results_ct rfl _ _ w.heap.size 31 #[.int .i64 c0, .int .i64 c1, .int .i64 c2] (0, 0) _ rfl (by (with_reducible repeat (first | refine zN ?_ _ | refine zO ?_ | refine zP ?_ _)); refine blk_put (cs := #[.int .i64 c0, .int .i64 c1, .int .i64 0]) ?_ 2 _ rfl; (with_reducible repeat (first | refine zN ?_ _ | refine zO ?_ | refine zP ?_ _)); refine blk_put (cs := #[.int .i64 c0, .int .i64 0, .int .i64 0]) ?_ 1 _ rfl; (with_reducible repeat (first | refine zN ?_ _ | refine zO ?_ | refine zP ?_ _)); refine blk_put (cs := #[.int .i64 0, .int .i64 0, .int .i64 0]) ?_ 0 _ rfl; (with_reducible repeat (first | refine zN ?_ _ | refine zO ?_ | refine zP ?_ _)); exact BKR.out) Tryz.underlying31 rfl (by kernel_rfl)) rfl ?_
     exact ⟨by first | rfl | (simp <;> rfl), by repeat (first | (with_reducible first | exact HB.out | apply z2 | apply z3 | apply z4 | refine zS ?_ (Nat.le_refl _)) | exact HB.out)⟩
  rw [if_neg hn3] at h
  simp only [Option.some.injEq, Prod.mk.injEq] at h
  obtain ⟨rfl, rfl, rfl, rfl⟩ := h
  have hn1 : ((n : Int) + 1 == 4) = false := by simp; omega
  have hn1c : ((n : Int) + 1 != 4) = true := by rw [bne, hn1]; rfl
  clear hn3
  go_enter Tryz.func15, Tryz.ntmps15
  go_wp2_with (first | (go_at_call 30; (with_reducible refine (HC.out _).mono ?_); rintro e w1 ⟨rfl, hw⟩; have HRb := zM (show w1.heap[w.heap.size]? = some (.cells #[.int .i64 0, .int .i64 0, .int .i64 0] 31 (0, 0)) from by rw [hw]; exact zP (blk_new w _) _); have HB1 := zM (show Below w.heap.size w w1 from by rw [hw]; exact z2 (z2 (Below.refl _ _) _) _); have HZ := zM (show w1.heap.size = w.heap.size + 2 from by rw [hw]; simp); have HWb := zM (show w1.heap[w.heap.size + 1]? = some (.cells ((impl_parseStmt.wsOf s).map Value.string).toArray 9 (0, 0)) from by rw [hw]; exact (by simp : (w.alloc (.cells #[.int .i64 0, .int .i64 0, .int .i64 0] 31)).heap.size = w.heap.size + 1) ▸ blk_new (w.alloc (.cells #[.int .i64 0, .int .i64 0, .int .i64 0] 31)) _); have hr0 : w1.cell? ⟨w.heap.size, 0, none⟩ = some (.int .i64 0) := (z5 HRb.out 0).trans rfl; have hrf0 := z6 HRb.out 0; have hr1 : w1.cell? ⟨w.heap.size, 1, none⟩ = some (.int .i64 0) := (z5 HRb.out 1).trans rfl; have hrf1 := z6 HRb.out 1; have hr2 : w1.cell? ⟨w.heap.size, 2, none⟩ = some (.int .i64 0) := (z5 HRb.out 2).trans rfl; have hrf2 := z6 HRb.out 2; clear hw))
  refine bodyPost_ret (results_ct rfl _ _ w.heap.size 31 #[.int .i64 0, .int .i64 0, .int .i64 0] (0, 0) _ rfl (by (with_reducible repeat (first | refine zN ?_ _ | refine zO ?_ | refine zP ?_ _)); refine blk_put (cs := #[.int .i64 0, .int .i64 0, .int .i64 0]) ?_ 2 _ rfl; (with_reducible repeat (first | refine zN ?_ _ | refine zO ?_ | refine zP ?_ _)); refine blk_put (cs := #[.int .i64 0, .int .i64 0, .int .i64 0]) ?_ 1 _ rfl; (with_reducible repeat (first | refine zN ?_ _ | refine zO ?_ | refine zP ?_ _)); refine blk_put (cs := #[.int .i64 0, .int .i64 0, .int .i64 0]) ?_ 0 _ rfl; (with_reducible repeat (first | refine zN ?_ _ | refine zO ?_ | refine zP ?_ _)); exact HRb.out) Tryz.underlying31 rfl (by kernel_rfl)) rfl ?_
  exact ⟨rfl, by repeat (first | (with_reducible first | exact HB1.out | apply z2 | apply z3 | apply z4 | refine zS ?_ (Nat.le_refl _)) | exact HB1.out)⟩
 rw [if_neg hs] at h; cases h
def impl_isOpening.f (a0 : Int) : Option (Bool) := if a0 = 4 then (some true) else (some (a0 == 5))
theorem impl_isOpening.calls (a0 : Int) (r : Bool) (w : World) (h : impl_isOpening.f a0 = some r) :
  Calls Tryz.prog 84 #[.int .i64 a0] w fun e w' => e = .returned (.bool r) ∧ Drawn0 w w' := by
 have H : (if a0 = 4 then (some true) else (some (a0 == 5))) = some r := h
 clear h
 by_cases c2 : a0 = 4
 ·rw [if_pos c2] at H
  have c2b0 : (a0 == 4) = true := beq_iff_eq.mpr c2
  have c2b1 : (a0 != 4) = false := bne_eq_false_iff_eq.mpr c2
  clear c2
  obtain rfl := Option.some.inj H
  go_enter Tryz.func84, Tryz.ntmps84
  go_wp2
  go_ret
  exact ⟨by first | rfl | (simp; done) | (simp [*]; done), by repeat (first | exact Drawn0.refl _ | apply Drawn0.step)⟩
 rw [if_neg c2] at H
 have c2b0 : (a0 == 4) = false := beq_eq_false_iff_ne.mpr c2
 have c2b1 : (a0 != 4) = true := bne_iff_ne.mpr c2
 obtain rfl := Option.some.inj H
 go_enter Tryz.func84, Tryz.ntmps84
 go_wp2
 go_ret
 exact ⟨by first | rfl | (simp; done) | (simp [*]; done), by repeat (first | exact Drawn0.refl _ | apply Drawn0.step)⟩
mutual
def impl_BlockOk.l0 : Nat → List (S35) → Int → List (S35) → Int → Int → Option (Bool)
 | 0, _, _, _, _, _ => none
 | k + 1, x0, x3, x6, x7, x8 => if x8 < x7 then (if 0 ≤ x8 then (if x8 < (x6.length : Int) then ((impl_StmtOk.f k ((rd_T35 x6 x8).f0) ((rd_T35 x6 x8).f1) ((rd_T35 x6 x8).f2) ((rd_T35 x6 x8).f3.f0) ((rd_T35 x6 x8).f3.f1) ((rd_T35 x6 x8).f3.f2)).bind fun t325 => (if t325 = true then ((impl_isOpening.f ((rd_T35 x6 x8).f0)).bind fun t326 => (if t326 = true then (impl_BlockOk.j1 k x0 (wrap64 (x3 + 1)) x6 x7 x8 ((rd_T35 x6 x8).f0) ((rd_T35 x6 x8).f1) ((rd_T35 x6 x8).f2) ((rd_T35 x6 x8).f3.f0) ((rd_T35 x6 x8).f3.f1) ((rd_T35 x6 x8).f3.f2)) else (impl_BlockOk.j1 k x0 x3 x6 x7 x8 ((rd_T35 x6 x8).f0) ((rd_T35 x6 x8).f1) ((rd_T35 x6 x8).f2) ((rd_T35 x6 x8).f3.f0) ((rd_T35 x6 x8).f3.f1) ((rd_T35 x6 x8).f3.f2)))) else (some false))) else (none)) else (none)) else (if x3 = 0 then (some (decide ((x0.length : Int) ≤ 24))) else (some false))
def impl_BlockOk.j1 : Nat → List (S35) → Int → List (S35) → Int → Int → Int → Int → Int → Int → Int → Int → Option (Bool)
 | 0, _, _, _, _, _, _, _, _, _, _, _ => none
 | k + 1, x0, x3, x6, x7, x8, x325000, x325001, x325002, x325003, x325004, x325005 => if x325000 = 6 then (if (wrap64 (x3 - 1)) < 0 then (some false) else (if (wrap64 (x3 - 1)) > 3 then (some false) else (impl_BlockOk.l0 k x0 (wrap64 (x3 - 1)) x6 x7 (wrap64 (x8 + 1))))) else (if x3 < 0 then (some false) else (if x3 > 3 then (some false) else (impl_BlockOk.l0 k x0 x3 x6 x7 (wrap64 (x8 + 1)))))
end
def impl_BlockOk.f (k : Nat) (l0 : List (S35)) : Option (Bool) := impl_BlockOk.l0 k l0 0 l0 (l0.length : Int) 0
theorem impl_BlockOk.mono_l : ∀ k, (∀ y0 y1 y2 y3 y4, LeO (impl_BlockOk.l0 k y0 y1 y2 y3 y4) (impl_BlockOk.l0 (k + 1) y0 y1 y2 y3 y4)) ∧ (∀ y0 y1 y2 y3 y4 y5 y6 y7 y8 y9 y10, LeO (impl_BlockOk.j1 k y0 y1 y2 y3 y4 y5 y6 y7 y8 y9 y10) (impl_BlockOk.j1 (k + 1) y0 y1 y2 y3 y4 y5 y6 y7 y8 y9 y10))
 | 0 => ⟨fun _ _ _ _ _ r h => by simp [impl_BlockOk.l0] at h, fun _ _ _ _ _ _ _ _ _ _ _ r h => by simp [impl_BlockOk.j1] at h⟩
 | k + 1 => by
  obtain ⟨ih0, ih1⟩ := impl_BlockOk.mono_l k
  refine ⟨?_, ?_⟩
  intro y0 y1 y2 y3 y4; unfold impl_BlockOk.l0; rotate_left; intro y0 y1 y2 y3 y4 y5 y6 y7 y8 y9 y10; unfold impl_BlockOk.j1; rotate_left
  all_goals repeat' first | (with_reducible first | exact ih0 _ _ _ _ _ | exact ih1 _ _ _ _ _ _ _ _ _ _ _ | exact impl_StmtOk.mono _ _ _ _ _ _ _ | exact LeO.refl _ | exact LeO.none _ | refine LeO.ite ?_ ?_ | refine LeO.bind ?_ (fun _ => ?_)) | exact ih0 _ _ _ _ _ | exact ih1 _ _ _ _ _ _ _ _ _ _ _ | exact impl_StmtOk.mono _ _ _ _ _ _ _ | exact LeO.none _ | refine LeO.ite ?_ ?_ | refine LeO.bind ?_ (fun _ => ?_)
theorem impl_BlockOk.mono : ∀ a0 k, LeO (impl_BlockOk.f k a0) (impl_BlockOk.f (k + 1) a0) := by
 intro a0 k
 obtain ⟨ih0, ih1⟩ := impl_BlockOk.mono_l k
 unfold impl_BlockOk.f
 repeat' first | (with_reducible first | exact ih0 _ _ _ _ _ | exact ih1 _ _ _ _ _ _ _ _ _ _ _ | exact impl_StmtOk.mono _ _ _ _ _ _ _ | exact LeO.refl _ | exact LeO.none _ | refine LeO.ite ?_ ?_ | refine LeO.bind ?_ (fun _ => ?_)) | exact ih0 _ _ _ _ _ | exact ih1 _ _ _ _ _ _ _ _ _ _ _ | exact impl_StmtOk.mono _ _ _ _ _ _ _ | exact LeO.none _ | refine LeO.ite ?_ ?_ | refine LeO.bind ?_ (fun _ => ?_)
theorem impl_BlockOk.calls (k : Nat) (A0 : Option Addr) (c0 : Nat) (l0 : List (S35)) (r : Bool) (w : World) (hr0 : Kd.C k35 w A0 l0.length l0) (hc0 : l0.length ≤ c0) (h : impl_BlockOk.f k l0 = some r) :
  Calls Tryz.prog 73 #[.slice A0 l0.length c0] w fun e w' => e = .returned (.bool r) ∧ Below w.heap.size w w' := by
 have hu35 := Tryz.underlying35
 have HR0 := zM hr0
 have HC0 := zM hc0
 clear hr0 hc0
 have HB := zM (Below.refl w.heap.size w)
 have H : (impl_BlockOk.l0 k l0 0 l0 (l0.length : Int) 0) = some r := h
 clear h
 have H' := zM H
 clear H
 go_enter Tryz.func73, Tryz.ntmps73
 go_wp2
 go_loopg [3, 8] k (fun kq v3 v8 w' => ∃ (x3_1 : Int) (x8_1 : Int), v3 = .int .i64 x3_1 ∧ v8 = .int .i64 x8_1 ∧ Aside0 (impl_BlockOk.l0 kq l0 x3_1 l0 (l0.length : Int) x8_1 = some r) ∧ Aside0 (kq ≤ k) ∧ Aside0 (Below w.heap.size w w'))
 case atStart => exact ⟨(0), (0), zs, zs, H', ⟨Nat.le_refl _⟩, ⟨zb⟩⟩
 case round =>
  clear H'
  obtain ⟨x3_1, x8_1, rfl, rfl, HA, HK1, HB⟩ := hrel
  cases gk with
  | zero => exact absurd HA.out (by simp [impl_BlockOk.l0])
  | succ k1 =>
   have H := HA.out
   clear HA
   simp only [impl_BlockOk.l0] at H
   by_cases c2 : x8_1 < (l0.length : Int)
   ·rw [if_pos c2] at H
    have c2b0 : decide (x8_1 < (l0.length : Int)) = true := decide_eq_true c2
    clear c2
    by_cases c3 : 0 ≤ x8_1
    ·rw [if_pos c3] at H
     have c3b0 : decide (0 ≤ x8_1) = true := decide_eq_true c3
     clear c3
     by_cases c4 : x8_1 < (l0.length : Int)
     ·rw [if_pos c4] at H
      have c4b0 : decide (x8_1 < (l0.length : Int)) = true := decide_eq_true c4
      clear c4
      replace H := Option.bind_eq_some_iff.mp H
      obtain ⟨t325, A50, H⟩ := H
      replace H : (if t325 = true then ((impl_isOpening.f ((rd_T35 l0 x8_1).f0)).bind fun t326 => (if t326 = true then (impl_BlockOk.j1 k1 l0 (wrap64 (x3_1 + 1)) l0 (l0.length : Int) x8_1 ((rd_T35 l0 x8_1).f0) ((rd_T35 l0 x8_1).f1) ((rd_T35 l0 x8_1).f2) ((rd_T35 l0 x8_1).f3.f0) ((rd_T35 l0 x8_1).f3.f1) ((rd_T35 l0 x8_1).f3.f2)) else (impl_BlockOk.j1 k1 l0 x3_1 l0 (l0.length : Int) x8_1 ((rd_T35 l0 x8_1).f0) ((rd_T35 l0 x8_1).f1) ((rd_T35 l0 x8_1).f2) ((rd_T35 l0 x8_1).f3.f0) ((rd_T35 l0 x8_1).f3.f1) ((rd_T35 l0 x8_1).f3.f2)))) else (some false)) = some r := H
      have A5 := zM A50
      clear A50
      by_cases c6 : t325 = true
      ·subst c6
       have H1 : ((impl_isOpening.f ((rd_T35 l0 x8_1).f0)).bind fun t326 => (if t326 = true then (impl_BlockOk.j1 k1 l0 (wrap64 (x3_1 + 1)) l0 (l0.length : Int) x8_1 ((rd_T35 l0 x8_1).f0) ((rd_T35 l0 x8_1).f1) ((rd_T35 l0 x8_1).f2) ((rd_T35 l0 x8_1).f3.f0) ((rd_T35 l0 x8_1).f3.f1) ((rd_T35 l0 x8_1).f3.f2)) else (impl_BlockOk.j1 k1 l0 x3_1 l0 (l0.length : Int) x8_1 ((rd_T35 l0 x8_1).f0) ((rd_T35 l0 x8_1).f1) ((rd_T35 l0 x8_1).f2) ((rd_T35 l0 x8_1).f3.f0) ((rd_T35 l0 x8_1).f3.f1) ((rd_T35 l0 x8_1).f3.f2)))) = some r := by rw [if_pos rfl] at H; exact H
       clear H
       have H := H1
       clear H1
       replace H := Option.bind_eq_some_iff.mp H
       obtain ⟨t326, A70, H⟩ := H
       replace H : (if t326 = true then (impl_BlockOk.j1 k1 l0 (wrap64 (x3_1 + 1)) l0 (l0.length : Int) x8_1 ((rd_T35 l0 x8_1).f0) ((rd_T35 l0 x8_1).f1) ((rd_T35 l0 x8_1).f2) ((rd_T35 l0 x8_1).f3.f0) ((rd_T35 l0 x8_1).f3.f1) ((rd_T35 l0 x8_1).f3.f2)) else (impl_BlockOk.j1 k1 l0 x3_1 l0 (l0.length : Int) x8_1 ((rd_T35 l0 x8_1).f0) ((rd_T35 l0 x8_1).f1) ((rd_T35 l0 x8_1).f2) ((rd_T35 l0 x8_1).f3.f0) ((rd_T35 l0 x8_1).f3.f1) ((rd_T35 l0 x8_1).f3.f2))) = some r := H
       have A7 := zM A70
       clear A70
       have HC8 := zM H
       clear H
       have p323 : 0 ≤ (x8_1 : Int) := zd
       have q323 : x8_1 < (l0.length : Int) := zd
       obtain ⟨ad323, e323, hx323_0, hx323_1, hx323_2, hx323_3, hx323_4, hx323_5⟩ := at_T35 HR0.out x8_1 p323 q323
       cases e323
       replace hx323_0 := (HB.out.cell (zm w _ hx323_0)).trans hx323_0
       replace hx323_1 := (HB.out.cell (zm w _ hx323_1)).trans hx323_1
       replace hx323_2 := (HB.out.cell (zm w _ hx323_2)).trans hx323_2
       replace hx323_3 := (HB.out.cell (zm w _ hx323_3)).trans hx323_3
       replace hx323_4 := (HB.out.cell (zm w _ hx323_4)).trans hx323_4
       replace hx323_5 := (HB.out.cell (zm w _ hx323_5)).trans hx323_5
       replace p323 := eq_true p323
       replace q323 := eq_true q323
       go_upto_if 17 with (first | ((with_reducible refine gate_dst (N := 5) rfl ?_); (try (refine gate_guard (by rfl) ?_; dsimp only)); refine box_event ?hg (N := 5) ?hd (cs := #[.int .i64 0, .int .i64 0, .int .i64 0, .int .i64 0, .int .i64 0, .int .i64 0]) (t := 35) ?hr ?_; (case hd => rfl); (case hg => rfl); (case hr => first | (go_simp; done) | (go_simp; rfl)); intro gb324 hg w9 hbox hb; have n0_ := zM (zQ zb hb); have n1_ := zM (hbox); have n2_ := zM ((by rw [hg]; exact (zR zb) : w.heap.size ≤ gb324)); have n3_ := zM ((by rw [hg]; exact (zR zb) : w.heap.size ≤ gb324)); clear HB; have HB := n0_; have BK324 := n1_; have GW324 := n2_; have GE324 := n3_; clear n0_ n1_ n2_ n3_; clear hb hbox hg; have hcz10_0 := (z5 BK324.out 0).trans rfl; have hcz10_1 := (z5 BK324.out 1).trans rfl; have hcz10_2 := (z5 BK324.out 2).trans rfl; have hcz10_3 := (z5 BK324.out 3).trans rfl; have hcz10_4 := (z5 BK324.out 4).trans rfl; have hcz10_5 := (z5 BK324.out 5).trans rfl; have hfz10_0 := z6 BK324.out 0; have hfz10_1 := z6 BK324.out 1; have hfz10_2 := z6 BK324.out 2; have hfz10_3 := z6 BK324.out 3; have hfz10_4 := z6 BK324.out 4; have hfz10_5 := z6 BK324.out 5) | ((with_reducible refine gate_callee (f := 54) rfl ?_); refine goesL_ (some 13) rfl rfl Tryz.func54 (by kernel_rfl) rfl #[.agg #[.int .i64 ((rd_T35 l0 x8_1).f0), .int .i64 ((rd_T35 l0 x8_1).f1), .int .i64 ((rd_T35 l0 x8_1).f2), .int .i64 ((rd_T35 l0 x8_1).f3.f0), .int .i64 ((rd_T35 l0 x8_1).f3.f1), .int .i64 ((rd_T35 l0 x8_1).f3.f2)]] rfl zg ?_; (with_reducible refine (impl_StmtOk.calls k1 ((rd_T35 l0 x8_1).f0) ((rd_T35 l0 x8_1).f1) ((rd_T35 l0 x8_1).f2) ((rd_T35 l0 x8_1).f3.f0) ((rd_T35 l0 x8_1).f3.f1) ((rd_T35 l0 x8_1).f3.f2) true _ A5.out).mono ?_); rintro e w11 ⟨rfl, hb⟩; refine ⟨_, rfl, ?_⟩; have n0_ := zM (z7 (g := gb324) (o := .cells #[.int .i64 ((rd_T35 l0 x8_1).f0), .int .i64 ((rd_T35 l0 x8_1).f1), .int .i64 ((rd_T35 l0 x8_1).f2), .int .i64 ((rd_T35 l0 x8_1).f3.f0), .int .i64 ((rd_T35 l0 x8_1).f3.f1), .int .i64 ((rd_T35 l0 x8_1).f3.f2)] 35 (0, 0)) (by (with_reducible repeat (first | refine zN ?_ _ | refine zO ?_ | refine zP ?_ _)); refine blk_put (cs := #[.int .i64 ((rd_T35 l0 x8_1).f0), .int .i64 ((rd_T35 l0 x8_1).f1), .int .i64 ((rd_T35 l0 x8_1).f2), .int .i64 ((rd_T35 l0 x8_1).f3.f0), .int .i64 ((rd_T35 l0 x8_1).f3.f1), .int .i64 0]) ?_ 5 _ rfl; (with_reducible repeat (first | refine zN ?_ _ | refine zO ?_ | refine zP ?_ _)); refine blk_put (cs := #[.int .i64 ((rd_T35 l0 x8_1).f0), .int .i64 ((rd_T35 l0 x8_1).f1), .int .i64 ((rd_T35 l0 x8_1).f2), .int .i64 ((rd_T35 l0 x8_1).f3.f0), .int .i64 0, .int .i64 0]) ?_ 4 _ rfl; (with_reducible repeat (first | refine zN ?_ _ | refine zO ?_ | refine zP ?_ _)); refine blk_put (cs := #[.int .i64 ((rd_T35 l0 x8_1).f0), .int .i64 ((rd_T35 l0 x8_1).f1), .int .i64 ((rd_T35 l0 x8_1).f2), .int .i64 0, .int .i64 0, .int .i64 0]) ?_ 3 _ rfl; (with_reducible repeat (first | refine zN ?_ _ | refine zO ?_ | refine zP ?_ _)); refine blk_put (cs := #[.int .i64 ((rd_T35 l0 x8_1).f0), .int .i64 ((rd_T35 l0 x8_1).f1), .int .i64 0, .int .i64 0, .int .i64 0, .int .i64 0]) ?_ 2 _ rfl; (with_reducible repeat (first | refine zN ?_ _ | refine zO ?_ | refine zP ?_ _)); refine blk_put (cs := #[.int .i64 ((rd_T35 l0 x8_1).f0), .int .i64 0, .int .i64 0, .int .i64 0, .int .i64 0, .int .i64 0]) ?_ 1 _ rfl; (with_reducible repeat (first | refine zN ?_ _ | refine zO ?_ | refine zP ?_ _)); refine blk_put (cs := #[.int .i64 0, .int .i64 0, .int .i64 0, .int .i64 0, .int .i64 0, .int .i64 0]) ?_ 0 _ rfl; (with_reducible repeat (first | refine zN ?_ _ | refine zO ?_ | refine zP ?_ _)); exact BK324.out) hb); have n1_ := zM (zQ zb hb); clear BK324; clear HB; have BK324 := n0_; have HB := n1_; clear n0_ n1_; (try clear hb); have hcz12_0 := (z5 BK324.out 0).trans rfl; have hcz12_1 := (z5 BK324.out 1).trans rfl; have hcz12_2 := (z5 BK324.out 2).trans rfl; have hcz12_3 := (z5 BK324.out 3).trans rfl; have hcz12_4 := (z5 BK324.out 4).trans rfl; have hcz12_5 := (z5 BK324.out 5).trans rfl; have hfz12_0 := z6 BK324.out 0; have hfz12_1 := z6 BK324.out 1; have hfz12_2 := z6 BK324.out 2; have hfz12_3 := z6 BK324.out 3; have hfz12_4 := z6 BK324.out 4; have hfz12_5 := z6 BK324.out 5) | ((with_reducible refine gate_callee (f := 84) rfl ?_); refine goesL_ (some 17) rfl rfl Tryz.func84 (by kernel_rfl) rfl #[.int .i64 ((rd_T35 l0 x8_1).f0)] rfl zg ?_; (with_reducible refine (impl_isOpening.calls ((rd_T35 l0 x8_1).f0) t326 _ A7.out).mono ?_); rintro e w' ⟨rfl, ⟨nd, rfl⟩⟩; refine ⟨_, rfl, ?_⟩))
       (try simp only [Act.put, List.setIfInBounds_toArray, List.set_cons_zero, List.set_cons_succ])
       go_cut [3] (fun v3 wc => ∃ (kq : Nat) (x3_7 : Int), v3 = .int .i64 x3_7 ∧ Aside0 (impl_BlockOk.j1 kq l0 x3_7 l0 (l0.length : Int) x8_1 ((rd_T35 l0 x8_1).f0) ((rd_T35 l0 x8_1).f1) ((rd_T35 l0 x8_1).f2) ((rd_T35 l0 x8_1).f3.f0) ((rd_T35 l0 x8_1).f3.f1) ((rd_T35 l0 x8_1).f3.f2) = some r) ∧ Aside0 (kq ≤ k1) ∧ Aside0 (wc.heap[gb324]? = some (.cells #[.int .i64 ((rd_T35 l0 x8_1).f0), .int .i64 ((rd_T35 l0 x8_1).f1), .int .i64 ((rd_T35 l0 x8_1).f2), .int .i64 ((rd_T35 l0 x8_1).f3.f0), .int .i64 ((rd_T35 l0 x8_1).f3.f1), .int .i64 ((rd_T35 l0 x8_1).f3.f2)] 35 (0, 0))) ∧ Aside0 (Below w.heap.size w wc))
       case first =>
        have H := HC8.out
        clear HC8
        by_cases c13 : t326 = true
        ·subst c13
         have H1 : (impl_BlockOk.j1 k1 l0 (wrap64 (x3_1 + 1)) l0 (l0.length : Int) x8_1 ((rd_T35 l0 x8_1).f0) ((rd_T35 l0 x8_1).f1) ((rd_T35 l0 x8_1).f2) ((rd_T35 l0 x8_1).f3.f0) ((rd_T35 l0 x8_1).f3.f1) ((rd_T35 l0 x8_1).f3.f2)) = some r := by rw [if_pos rfl] at H; exact H
         clear H
         have H := H1
         clear H1
         have H' := zM H
         clear H
         go_wp2
         go_meet
         case rel => exact ⟨_, (wrap64 (x3_1 + 1)), zs, H', ⟨by have := HK1.out; first | omega | exact Nat.le_refl _⟩, ⟨zk⟩, ⟨zb⟩⟩
        replace c13 := Bool.eq_false_iff.mpr c13
        subst c13
        have H1 : (impl_BlockOk.j1 k1 l0 x3_1 l0 (l0.length : Int) x8_1 ((rd_T35 l0 x8_1).f0) ((rd_T35 l0 x8_1).f1) ((rd_T35 l0 x8_1).f2) ((rd_T35 l0 x8_1).f3.f0) ((rd_T35 l0 x8_1).f3.f1) ((rd_T35 l0 x8_1).f3.f2)) = some r := by rw [if_neg (show ¬ (false = true) by decide)] at H; exact H
        clear H
        have H := H1
        clear H1
        have H' := zM H
        clear H
        go_wp2
        go_meet
        case rel => exact ⟨_, (x3_1), zs, H', ⟨by have := HK1.out; first | omega | exact Nat.le_refl _⟩, ⟨zk⟩, ⟨zb⟩⟩
       case rest =>
        clear HC8
        try clear c1
        try clear c2
        try clear c2b0
        try clear p2
        try clear c3
        try clear c3b0
        try clear p3
        try clear q3
        try clear hx3
        try clear c4
        try clear c4b0
        try clear c5
        try clear c6
        try clear p6
        try clear c7
        try clear c8
        try clear c13
        try clear hcz10_0
        try clear hcz10_1
        try clear hcz10_2
        try clear hcz10_3
        try clear hcz10_4
        try clear hcz10_5
        try clear hcz12_0
        try clear hcz12_1
        try clear hcz12_2
        try clear hcz12_3
        try clear hcz12_4
        try clear hcz12_5
        try clear hfz10_0
        try clear hfz10_1
        try clear hfz10_2
        try clear hfz10_3
        try clear hfz10_4
        try clear hfz10_5
        try clear hfz12_0
        try clear hfz12_1
        try clear hfz12_2
        try clear hfz12_3
        try clear hfz12_4
        try clear hfz12_5
        try clear hx323_0
        try clear hx323_1
        try clear hx323_2
        try clear hx323_3
        try clear hx323_4
        try clear hx323_5
        try clear p323
        try clear q323
        obtain ⟨kq, x3_7, rfl, HA, HJ7, BK324, HB⟩ := hcut
        cases kq with
        | zero => exact absurd HA.out (by simp [impl_BlockOk.j1])
        | succ kj7 =>
         have H := HA.out
         clear HA
         simp only [impl_BlockOk.j1] at H
         by_cases c14 : ((rd_T35 l0 x8_1).f0) = 6
         ·rw [if_pos c14] at H
          have c14b0 : (((rd_T35 l0 x8_1).f0) == 6) = true := beq_iff_eq.mpr c14
          have c14b1 : (((rd_T35 l0 x8_1).f0) != 6) = false := bne_eq_false_iff_eq.mpr c14
          clear c14
          by_cases c15 : (wrap64 (x3_7 - 1)) < 0
          ·rw [if_pos c15] at H
           have c15b0 : decide ((wrap64 (x3_7 - 1)) < 0) = true := decide_eq_true c15
           clear c15
           obtain rfl := Option.some.inj H
           have hcz16_0 := (z5 BK324.out 0).trans rfl
           have hcz16_1 := (z5 BK324.out 1).trans rfl
           have hcz16_2 := (z5 BK324.out 2).trans rfl
           have hcz16_3 := (z5 BK324.out 3).trans rfl
           have hcz16_4 := (z5 BK324.out 4).trans rfl
           have hcz16_5 := (z5 BK324.out 5).trans rfl
           have hfz16_0 := z6 BK324.out 0
           have hfz16_1 := z6 BK324.out 1
           have hfz16_2 := z6 BK324.out 2
           have hfz16_3 := z6 BK324.out 3
           have hfz16_4 := z6 BK324.out 4
           have hfz16_5 := z6 BK324.out 5
           go_wp2
           go_ret
           exact ⟨by first | rfl | (simp [errW_none, errW_some] <;> rfl) | (simp [*, errW_none, errW_some] <;> rfl), zb⟩
          rw [if_neg c15] at H
          have c15b0 : decide ((wrap64 (x3_7 - 1)) < 0) = false := decide_eq_false c15
          clear c15
          by_cases c17 : (wrap64 (x3_7 - 1)) > 3
          ·rw [if_pos c17] at H
           have c17b0 : decide (3 < (wrap64 (x3_7 - 1))) = true := decide_eq_true c17
           clear c17
           obtain rfl := Option.some.inj H
           have hcz18_0 := (z5 BK324.out 0).trans rfl
           have hcz18_1 := (z5 BK324.out 1).trans rfl
           have hcz18_2 := (z5 BK324.out 2).trans rfl
           have hcz18_3 := (z5 BK324.out 3).trans rfl
           have hcz18_4 := (z5 BK324.out 4).trans rfl
           have hcz18_5 := (z5 BK324.out 5).trans rfl
           have hfz18_0 := z6 BK324.out 0
           have hfz18_1 := z6 BK324.out 1
           have hfz18_2 := z6 BK324.out 2
           have hfz18_3 := z6 BK324.out 3
           have hfz18_4 := z6 BK324.out 4
           have hfz18_5 := z6 BK324.out 5
           go_wp2
           go_ret
           exact ⟨by first | rfl | (simp [errW_none, errW_some] <;> rfl) | (simp [*, errW_none, errW_some] <;> rfl), zb⟩
          rw [if_neg c17] at H
          have c17b0 : decide (3 < (wrap64 (x3_7 - 1))) = false := decide_eq_false c17
          clear c17
          have H' := zM H
          clear H
          have hcz19_0 := (z5 BK324.out 0).trans rfl
          have hcz19_1 := (z5 BK324.out 1).trans rfl
          have hcz19_2 := (z5 BK324.out 2).trans rfl
          have hcz19_3 := (z5 BK324.out 3).trans rfl
          have hcz19_4 := (z5 BK324.out 4).trans rfl
          have hcz19_5 := (z5 BK324.out 5).trans rfl
          have hfz19_0 := z6 BK324.out 0
          have hfz19_1 := z6 BK324.out 1
          have hfz19_2 := z6 BK324.out 2
          have hfz19_3 := z6 BK324.out 3
          have hfz19_4 := z6 BK324.out 4
          have hfz19_5 := z6 BK324.out 5
          go_wp2
          go_roundg kj7
          case measure => have := HK1.out; have := HJ7.out; omega
          case rel => exact ⟨(wrap64 (x3_7 - 1)), (wrap64 (x8_1 + 1)), zs, zs, H', ⟨by have := HK1.out; have := HJ7.out; omega⟩, ⟨zb⟩⟩
         rw [if_neg c14] at H
         have c14b0 : (((rd_T35 l0 x8_1).f0) == 6) = false := beq_eq_false_iff_ne.mpr c14
         have c14b1 : (((rd_T35 l0 x8_1).f0) != 6) = true := bne_iff_ne.mpr c14
         by_cases c20 : x3_7 < 0
         ·rw [if_pos c20] at H
          have c20b0 : decide (x3_7 < 0) = true := decide_eq_true c20
          clear c20
          obtain rfl := Option.some.inj H
          have hcz21_0 := (z5 BK324.out 0).trans rfl
          have hcz21_1 := (z5 BK324.out 1).trans rfl
          have hcz21_2 := (z5 BK324.out 2).trans rfl
          have hcz21_3 := (z5 BK324.out 3).trans rfl
          have hcz21_4 := (z5 BK324.out 4).trans rfl
          have hcz21_5 := (z5 BK324.out 5).trans rfl
          have hfz21_0 := z6 BK324.out 0
          have hfz21_1 := z6 BK324.out 1
          have hfz21_2 := z6 BK324.out 2
          have hfz21_3 := z6 BK324.out 3
          have hfz21_4 := z6 BK324.out 4
          have hfz21_5 := z6 BK324.out 5
          go_wp2
          go_ret
          exact ⟨by first | rfl | (simp [errW_none, errW_some] <;> rfl) | (simp [*, errW_none, errW_some] <;> rfl), zb⟩
         rw [if_neg c20] at H
         have c20b0 : decide (x3_7 < 0) = false := decide_eq_false c20
         clear c20
         by_cases c22 : x3_7 > 3
         ·rw [if_pos c22] at H
          have c22b0 : decide (3 < x3_7) = true := decide_eq_true c22
          clear c22
          obtain rfl := Option.some.inj H
          have hcz23_0 := (z5 BK324.out 0).trans rfl
          have hcz23_1 := (z5 BK324.out 1).trans rfl
          have hcz23_2 := (z5 BK324.out 2).trans rfl
          have hcz23_3 := (z5 BK324.out 3).trans rfl
          have hcz23_4 := (z5 BK324.out 4).trans rfl
          have hcz23_5 := (z5 BK324.out 5).trans rfl
          have hfz23_0 := z6 BK324.out 0
          have hfz23_1 := z6 BK324.out 1
          have hfz23_2 := z6 BK324.out 2
          have hfz23_3 := z6 BK324.out 3
          have hfz23_4 := z6 BK324.out 4
          have hfz23_5 := z6 BK324.out 5
          go_wp2
          go_ret
          exact ⟨by first | rfl | (simp [errW_none, errW_some] <;> rfl) | (simp [*, errW_none, errW_some] <;> rfl), zb⟩
         rw [if_neg c22] at H
         have c22b0 : decide (3 < x3_7) = false := decide_eq_false c22
         clear c22
         have H' := zM H
         clear H
         have hcz24_0 := (z5 BK324.out 0).trans rfl
         have hcz24_1 := (z5 BK324.out 1).trans rfl
         have hcz24_2 := (z5 BK324.out 2).trans rfl
         have hcz24_3 := (z5 BK324.out 3).trans rfl
         have hcz24_4 := (z5 BK324.out 4).trans rfl
         have hcz24_5 := (z5 BK324.out 5).trans rfl
         have hfz24_0 := z6 BK324.out 0
         have hfz24_1 := z6 BK324.out 1
         have hfz24_2 := z6 BK324.out 2
         have hfz24_3 := z6 BK324.out 3
         have hfz24_4 := z6 BK324.out 4
         have hfz24_5 := z6 BK324.out 5
         go_wp2
         go_roundg kj7
         case measure => have := HK1.out; have := HJ7.out; omega
         case rel => exact ⟨(x3_7), (wrap64 (x8_1 + 1)), zs, zs, H', ⟨by have := HK1.out; have := HJ7.out; omega⟩, ⟨zb⟩⟩
      replace c6 := Bool.eq_false_iff.mpr c6
      subst c6
      have H1 : (some false) = some r := by rw [if_neg (show ¬ (false = true) by decide)] at H; exact H
      clear H
      have H := H1
      clear H1
      obtain rfl := Option.some.inj H
      have p323 : 0 ≤ (x8_1 : Int) := zd
      have q323 : x8_1 < (l0.length : Int) := zd
      obtain ⟨ad323, e323, hx323_0, hx323_1, hx323_2, hx323_3, hx323_4, hx323_5⟩ := at_T35 HR0.out x8_1 p323 q323
      cases e323
      replace hx323_0 := (HB.out.cell (zm w _ hx323_0)).trans hx323_0
      replace hx323_1 := (HB.out.cell (zm w _ hx323_1)).trans hx323_1
      replace hx323_2 := (HB.out.cell (zm w _ hx323_2)).trans hx323_2
      replace hx323_3 := (HB.out.cell (zm w _ hx323_3)).trans hx323_3
      replace hx323_4 := (HB.out.cell (zm w _ hx323_4)).trans hx323_4
      replace hx323_5 := (HB.out.cell (zm w _ hx323_5)).trans hx323_5
      replace p323 := eq_true p323
      replace q323 := eq_true q323
      go_wp2_with (first | ((with_reducible refine gate_dst (N := 5) rfl ?_); (try (refine gate_guard (by rfl) ?_; dsimp only)); refine box_event ?hg (N := 5) ?hd (cs := #[.int .i64 0, .int .i64 0, .int .i64 0, .int .i64 0, .int .i64 0, .int .i64 0]) (t := 35) ?hr ?_; (case hd => rfl); (case hg => rfl); (case hr => first | (go_simp; done) | (go_simp; rfl)); intro gb324 hg w25 hbox hb; have n0_ := zM (zQ zb hb); have n1_ := zM (hbox); have n2_ := zM ((by rw [hg]; exact (zR zb) : w.heap.size ≤ gb324)); have n3_ := zM ((by rw [hg]; exact (zR zb) : w.heap.size ≤ gb324)); clear HB; have HB := n0_; have BK324 := n1_; have GW324 := n2_; have GE324 := n3_; clear n0_ n1_ n2_ n3_; clear hb hbox hg; have hcz26_0 := (z5 BK324.out 0).trans rfl; have hcz26_1 := (z5 BK324.out 1).trans rfl; have hcz26_2 := (z5 BK324.out 2).trans rfl; have hcz26_3 := (z5 BK324.out 3).trans rfl; have hcz26_4 := (z5 BK324.out 4).trans rfl; have hcz26_5 := (z5 BK324.out 5).trans rfl; have hfz26_0 := z6 BK324.out 0; have hfz26_1 := z6 BK324.out 1; have hfz26_2 := z6 BK324.out 2; have hfz26_3 := z6 BK324.out 3; have hfz26_4 := z6 BK324.out 4; have hfz26_5 := z6 BK324.out 5) | ((with_reducible refine gate_callee (f := 54) rfl ?_); refine goesL_ (some 13) rfl rfl Tryz.func54 (by kernel_rfl) rfl #[.agg #[.int .i64 ((rd_T35 l0 x8_1).f0), .int .i64 ((rd_T35 l0 x8_1).f1), .int .i64 ((rd_T35 l0 x8_1).f2), .int .i64 ((rd_T35 l0 x8_1).f3.f0), .int .i64 ((rd_T35 l0 x8_1).f3.f1), .int .i64 ((rd_T35 l0 x8_1).f3.f2)]] rfl zg ?_; (with_reducible refine (impl_StmtOk.calls k1 ((rd_T35 l0 x8_1).f0) ((rd_T35 l0 x8_1).f1) ((rd_T35 l0 x8_1).f2) ((rd_T35 l0 x8_1).f3.f0) ((rd_T35 l0 x8_1).f3.f1) ((rd_T35 l0 x8_1).f3.f2) false _ A5.out).mono ?_); rintro e w27 ⟨rfl, hb⟩; refine ⟨_, rfl, ?_⟩; have n0_ := zM (z7 (g := gb324) (o := .cells #[.int .i64 ((rd_T35 l0 x8_1).f0), .int .i64 ((rd_T35 l0 x8_1).f1), .int .i64 ((rd_T35 l0 x8_1).f2), .int .i64 ((rd_T35 l0 x8_1).f3.f0), .int .i64 ((rd_T35 l0 x8_1).f3.f1), .int .i64 ((rd_T35 l0 x8_1).f3.f2)] 35 (0, 0)) (by (with_reducible repeat (first | refine zN ?_ _ | refine zO ?_ | refine zP ?_ _)); refine blk_put (cs := #[.int .i64 ((rd_T35 l0 x8_1).f0), .int .i64 ((rd_T35 l0 x8_1).f1), .int .i64 ((rd_T35 l0 x8_1).f2), .int .i64 ((rd_T35 l0 x8_1).f3.f0), .int .i64 ((rd_T35 l0 x8_1).f3.f1), .int .i64 0]) ?_ 5 _ rfl; (with_reducible repeat (first | refine zN ?_ _ | refine zO ?_ | refine zP ?_ _)); refine blk_put (cs := #[.int .i64 ((rd_T35 l0 x8_1).f0), .int .i64 ((rd_T35 l0 x8_1).f1), .int .i64 ((rd_T35 l0 x8_1).f2), .int .i64 ((rd_T35 l0 x8_1).f3.f0), .int .i64 0, .int .i64 0]) ?_ 4 _ rfl; (with_reducible repeat (first | refine zN ?_ _ | refine zO ?_ | refine zP ?_ _)); refine blk_put (cs := #[.int .i64 ((rd_T35 l0 x8_1).f0), .int .i64 ((rd_T35 l0 x8_1).f1), .int .i64 ((rd_T35 l0 x8_1).f2), .int .i64 0, .int .i64 0, .int .i64 0]) ?_ 3 _ rfl; (with_reducible repeat (first | refine zN ?_ _ | refine zO ?_ | refine zP ?_ _)); refine blk_put (cs := #[.int .i64 ((rd_T35 l0 x8_1).f0), .int .i64 ((rd_T35 l0 x8_1).f1), .int .i64 0, .int .i64 0, .int .i64 0, .int .i64 0]) ?_ 2 _ rfl; (with_reducible repeat (first | refine zN ?_ _ | refine zO ?_ | refine zP ?_ _)); refine blk_put (cs := #[.int .i64 ((rd_T35 l0 x8_1).f0), .int .i64 0, .int .i64 0, .int .i64 0, .int .i64 0, .int .i64 0]) ?_ 1 _ rfl; (with_reducible repeat (first | refine zN ?_ _ | refine zO ?_ | refine zP ?_ _)); refine blk_put (cs := #[.int .i64 0, .int .i64 0, .int .i64 0, .int .i64 0, .int .i64 0, .int .i64 0]) ?_ 0 _ rfl; (with_reducible repeat (first | refine zN ?_ _ | refine zO ?_ | refine zP ?_ _)); exact BK324.out) hb); have n1_ := zM (zQ zb hb); clear BK324; clear HB; have BK324 := n0_; have HB := n1_; clear n0_ n1_; (try clear hb)))
      go_ret
      exact ⟨by first | rfl | (simp [errW_none, errW_some] <;> rfl) | (simp [*, errW_none, errW_some] <;> rfl), zb⟩
     rw [if_neg c4] at H
     exact absurd H (by simp)
    rw [if_neg c3] at H
    exact absurd H (by simp)
   rw [if_neg c2] at H
   have c2b0 : decide (x8_1 < (l0.length : Int)) = false := decide_eq_false c2
   clear c2
   by_cases c28 : x3_1 = 0
   ·rw [if_pos c28] at H
    have c28b0 : (x3_1 == 0) = true := beq_iff_eq.mpr c28
    have c28b1 : (x3_1 != 0) = false := bne_eq_false_iff_eq.mpr c28
    clear c28
    obtain rfl := Option.some.inj H
    go_wp2
    go_ret
    exact ⟨by first | rfl | (simp [errW_none, errW_some] <;> rfl) | (simp [*, errW_none, errW_some] <;> rfl), zb⟩
   rw [if_neg c28] at H
   have c28b0 : (x3_1 == 0) = false := beq_eq_false_iff_ne.mpr c28
   have c28b1 : (x3_1 != 0) = true := bne_iff_ne.mpr c28
   obtain rfl := Option.some.inj H
   go_wp2
   go_ret
   exact ⟨by first | rfl | (simp [errW_none, errW_some] <;> rfl) | (simp [*, errW_none, errW_some] <;> rfl), zb⟩
def impl_taskOk.f (k : Nat) (l0_0 : List (S35)) (a0_1 : Int) (a0_2 : Int) (a0_3 : Int) : Option (Bool) := (impl_BlockOk.f k l0_0).bind fun t328 => (if t328 = true then ((impl_ExprOk.f a0_1 a0_2 a0_3).bind fun t329 => (some t329)) else (some false))
theorem impl_taskOk.mono : ∀ a0 a1 a2 a3 k, LeO (impl_taskOk.f k a0 a1 a2 a3) (impl_taskOk.f (k + 1) a0 a1 a2 a3) := by
 intro a0 a1 a2 a3 k
 unfold impl_taskOk.f
 repeat' first | (with_reducible first | exact impl_BlockOk.mono _ _ | exact LeO.refl _ | exact LeO.none _ | refine LeO.ite ?_ ?_ | refine LeO.bind ?_ (fun _ => ?_)) | exact impl_BlockOk.mono _ _ | exact LeO.none _ | refine LeO.ite ?_ ?_ | refine LeO.bind ?_ (fun _ => ?_)
theorem impl_taskOk.calls (k : Nat) (A0_0 : Option Addr) (c0_0 : Nat) (l0_0 : List (S35)) (a0_1 : Int) (a0_2 : Int) (a0_3 : Int) (r : Bool) (w : World) (hr0_0 : Kd.C k35 w A0_0 l0_0.length l0_0) (hc0_0 : l0_0.length ≤ c0_0) (h : impl_taskOk.f k l0_0 a0_1 a0_2 a0_3 = some r) :
  Calls Tryz.prog 57 #[.agg #[.slice A0_0 l0_0.length c0_0, .int .i64 a0_1, .int .i64 a0_2, .int .i64 a0_3]] w fun e w' => e = .returned (.bool r) ∧ Below w.heap.size w w' := by
 have hu40 := Tryz.underlying40
 have hu31 := Tryz.underlying31
 have HR0_0 := zM hr0_0
 have HC0_0 := zM hc0_0
 clear hr0_0 hc0_0
 have HB := zM (Below.refl w.heap.size w)
 have H : ((impl_BlockOk.f k l0_0).bind fun t328 => (if t328 = true then ((impl_ExprOk.f a0_1 a0_2 a0_3).bind fun t329 => (some t329)) else (some false))) = some r := h
 clear h
 replace H := Option.bind_eq_some_iff.mp H
 obtain ⟨t328, A20, H⟩ := H
 replace H : (if t328 = true then ((impl_ExprOk.f a0_1 a0_2 a0_3).bind fun t329 => (some t329)) else (some false)) = some r := H
 have A2 := zM A20
 clear A20
 by_cases c3 : t328 = true
 ·subst c3
  have H1 : ((impl_ExprOk.f a0_1 a0_2 a0_3).bind fun t329 => (some t329)) = some r := by rw [if_pos rfl] at H; exact H
  clear H
  have H := H1
  clear H1
  replace H := Option.bind_eq_some_iff.mp H
  obtain ⟨t329, A40, H⟩ := H
  replace H : (some t329) = some r := H
  have A4 := zM A40
  clear A40
  obtain rfl := Option.some.inj H
  go_enter Tryz.func57, Tryz.ntmps57
  go_wp2_with (first | ((with_reducible refine gate_dst (N := 1) rfl ?_); refine box_event ?hg (N := 1) ?hd (cs := #[.slice A0_0 l0_0.length c0_0, .int .i64 a0_1, .int .i64 a0_2, .int .i64 a0_3]) (t := 40) ?hr ?_; (case hd => rfl); (case hg => rfl); (case hr => first | (go_simp; done) | (go_simp; rfl)); intro gb327 hg w5 hbox hb; have n0_ := zM (zQ zb hb); have n1_ := zM (hbox); have n2_ := zM ((by rw [hg]; exact (zR zb) : w.heap.size ≤ gb327)); have n3_ := zM ((by rw [hg]; exact (zR zb) : w.heap.size ≤ gb327)); clear HB; have HB := n0_; have BK327 := n1_; have GW327 := n2_; have GE327 := n3_; clear n0_ n1_ n2_ n3_; clear hb hbox hg; have hcz6_0 := (z5 BK327.out 0).trans rfl; have hcz6_1 := (z5 BK327.out 1).trans rfl; have hcz6_2 := (z5 BK327.out 2).trans rfl; have hcz6_3 := (z5 BK327.out 3).trans rfl; have hfz6_0 := z6 BK327.out 0; have hfz6_1 := z6 BK327.out 1; have hfz6_2 := z6 BK327.out 2; have hfz6_3 := z6 BK327.out 3) | ((with_reducible refine gate_callee (f := 73) rfl ?_); refine goesL_ (some 5) rfl rfl Tryz.func73 (by kernel_rfl) rfl #[.slice A0_0 l0_0.length c0_0] rfl zg ?_; (with_reducible refine (impl_BlockOk.calls k _ _ l0_0 true _ ?side1 ?side2 A2.out).mono ?_); (case side1 => repeat (first | exact (zX HR0_0.out HB.out) | (with_reducible refine zF ?_ _) | (with_reducible refine zG ?_ _) | (with_reducible refine zH ?_))); (case side2 => exact HC0_0.out); rintro e w7 ⟨rfl, hb⟩; refine ⟨_, rfl, ?_⟩; have n0_ := zM (z7 (g := gb327) (o := .cells #[.slice A0_0 l0_0.length c0_0, .int .i64 a0_1, .int .i64 a0_2, .int .i64 a0_3] 40 (0, 0)) zk hb); have n1_ := zM (zQ zb hb); clear BK327; clear HB; have BK327 := n0_; have HB := n1_; clear n0_ n1_; (try clear hb); have hcz8_0 := (z5 BK327.out 0).trans rfl; have hcz8_1 := (z5 BK327.out 1).trans rfl; have hcz8_2 := (z5 BK327.out 2).trans rfl; have hcz8_3 := (z5 BK327.out 3).trans rfl; have hfz8_0 := z6 BK327.out 0; have hfz8_1 := z6 BK327.out 1; have hfz8_2 := z6 BK327.out 2; have hfz8_3 := z6 BK327.out 3) | (go_at_call 32; (with_reducible refine (impl_ExprOk.calls a0_1 a0_2 a0_3 t329 _ A4.out).mono ?_); rintro e w9 ⟨rfl, hb⟩; have n0_ := zM (z7 (g := gb327) (o := .cells #[.slice A0_0 l0_0.length c0_0, .int .i64 a0_1, .int .i64 a0_2, .int .i64 a0_3] 40 (0, 0)) zk hb); have n1_ := zM (zQ zb hb); clear BK327; clear HB; have BK327 := n0_; have HB := n1_; clear n0_ n1_; (try clear hb)))
  go_ret
  exact ⟨by first | rfl | (simp [errW_none, errW_some] <;> rfl) | (simp [*, errW_none, errW_some] <;> rfl), zb⟩
 replace c3 := Bool.eq_false_iff.mpr c3
 subst c3
 have H1 : (some false) = some r := by rw [if_neg (show ¬ (false = true) by decide)] at H; exact H
 clear H
 have H := H1
 clear H1
 obtain rfl := Option.some.inj H
 go_enter Tryz.func57, Tryz.ntmps57
 go_wp2_with (first | ((with_reducible refine gate_dst (N := 1) rfl ?_); refine box_event ?hg (N := 1) ?hd (cs := #[.slice A0_0 l0_0.length c0_0, .int .i64 a0_1, .int .i64 a0_2, .int .i64 a0_3]) (t := 40) ?hr ?_; (case hd => rfl); (case hg => rfl); (case hr => first | (go_simp; done) | (go_simp; rfl)); intro gb327 hg w10 hbox hb; have n0_ := zM (zQ zb hb); have n1_ := zM (hbox); have n2_ := zM ((by rw [hg]; exact (zR zb) : w.heap.size ≤ gb327)); have n3_ := zM ((by rw [hg]; exact (zR zb) : w.heap.size ≤ gb327)); clear HB; have HB := n0_; have BK327 := n1_; have GW327 := n2_; have GE327 := n3_; clear n0_ n1_ n2_ n3_; clear hb hbox hg; have hcz11_0 := (z5 BK327.out 0).trans rfl; have hcz11_1 := (z5 BK327.out 1).trans rfl; have hcz11_2 := (z5 BK327.out 2).trans rfl; have hcz11_3 := (z5 BK327.out 3).trans rfl; have hfz11_0 := z6 BK327.out 0; have hfz11_1 := z6 BK327.out 1; have hfz11_2 := z6 BK327.out 2; have hfz11_3 := z6 BK327.out 3) | ((with_reducible refine gate_callee (f := 73) rfl ?_); refine goesL_ (some 5) rfl rfl Tryz.func73 (by kernel_rfl) rfl #[.slice A0_0 l0_0.length c0_0] rfl zg ?_; (with_reducible refine (impl_BlockOk.calls k _ _ l0_0 false _ ?side1 ?side2 A2.out).mono ?_); (case side1 => repeat (first | exact (zX HR0_0.out HB.out) | (with_reducible refine zF ?_ _) | (with_reducible refine zG ?_ _) | (with_reducible refine zH ?_))); (case side2 => exact HC0_0.out); rintro e w12 ⟨rfl, hb⟩; refine ⟨_, rfl, ?_⟩; have n0_ := zM (z7 (g := gb327) (o := .cells #[.slice A0_0 l0_0.length c0_0, .int .i64 a0_1, .int .i64 a0_2, .int .i64 a0_3] 40 (0, 0)) zk hb); have n1_ := zM (zQ zb hb); clear BK327; clear HB; have BK327 := n0_; have HB := n1_; clear n0_ n1_; (try clear hb)))
 go_ret
 exact ⟨by first | rfl | (simp [errW_none, errW_some] <;> rfl) | (simp [*, errW_none, errW_some] <;> rfl), zb⟩
end Go.Proofs.YtcpmkcidehhbiaaGreatDoor.PFnExactParseProgram
