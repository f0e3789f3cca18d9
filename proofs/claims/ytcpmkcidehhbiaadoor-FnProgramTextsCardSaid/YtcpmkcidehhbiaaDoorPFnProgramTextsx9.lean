/- Walks of the functions that a statement reaches, written by a program (the printing program, mended): no condition. -/
import Derived.Test.YtcpmkcidehhbiaaDoorPFnProgramTextsx0
import Derived.Test.YtcpmkcidehhbiaaDoorPFnProgramTextsx2
import Derived.Test.YtcpmkcidehhbiaaDoorPFnProgramTextsx5
import Derived.Test.YtcpmkcidehhbiaaDoorPFnProgramTextsx8
namespace Go.Proofs.YtcpmkcidehhbiaaDoor.PFnProgramTexts
open Go.RowKit Go.Proofs.YtcpmkcidehhbiaaDoorW.PrintWords Go.Proofs.YtcpmkcidehhbiaaDoorW.PrintLast Go.Proofs.YtcpmkcidehhbiaaDoorW.PrintMore
attribute [local go_sem] max2_int min2_int max_two min_two max_three min_three max_four min_four   -- for this text's walks alone
set_option linter.unusedVariables false
set_option linter.unusedSimpArgs false

/-! ### impl_parseTaskLine: function 88 (given) -/
/-- The number behind the j-th word. -/
def impl_parseTaskLine.at (s : ByteArray) (j : Nat) : Int := impl_parseStmt.atv ((impl_parseStmt.wsOf s).getD j ByteArray.empty)
def impl_parseTaskLine.f (k : Nat) (s : ByteArray) : Option (Int × Int × Int × Bool) :=
  if s.size < 4294967281 then
    if Lib.countB s ⟨#[32]⟩ = 3 then
      (impl_ExprOk.f (impl_parseTaskLine.at s 1) (impl_parseTaskLine.at s 2) (impl_parseTaskLine.at s 3)).bind fun t => if t = true then (impl_taskLine.f k (impl_parseTaskLine.at s 1) (impl_parseTaskLine.at s 2) (impl_parseTaskLine.at s 3)).bind fun u => some (impl_parseTaskLine.at s 1, impl_parseTaskLine.at s 2, impl_parseTaskLine.at s 3, u.toList == s.toList) else some (impl_parseTaskLine.at s 1, impl_parseTaskLine.at s 2, impl_parseTaskLine.at s 3, false)
    else some (0, 0, 0, false)
  else none
theorem impl_parseTaskLine.mono : ∀ a0 k, LeO (impl_parseTaskLine.f k a0) (impl_parseTaskLine.f (k + 1) a0) := by
  intro a0 k
  unfold impl_parseTaskLine.f
  exact LeO.ite (LeO.ite (LeO.bind (LeO.refl _) (fun _ => LeO.ite (LeO.bind (impl_taskLine.mono _ _ _ _) (fun _ => LeO.refl _)) (LeO.refl _))) (LeO.refl _)) (LeO.none _)
def impl_parseTaskLine.T : Bool × List (List Nat × List Nat) := (true, [([], []), ([], []), ([1], [1]), ([2, 2], [2]), ([3], [3]), ([4, 3, 3], [3, 4]), ([3], [3]), ([5, 6, 3], [3, 5, 6]), ([3, 7], [3, 7]), ([0, 5, 0], [0]), ([8, 9, 0, 1, 2, 3, 4, 5, 6, 7, 8, 9], [8])])
def impl_parseTaskLine.B : List Nat := [0, 0, 2, 6, 14, 30, 14, 126, 254, 63, 1023]
theorem impl_parseTaskLine.tab : rtab .any (opsOf Tryd.f88 10) = impl_parseTaskLine.T := by kernel_rfl
theorem impl_parseTaskLine.bits : waitsOk impl_parseTaskLine.T.2 impl_parseTaskLine.B = true := by kernel_rfl
theorem impl_parseTaskLine.word_cell {w1 : World} {b t : Nat} {l : List ByteArray} (h : w1.heap[b]? = some (.cells (l.map Value.string).toArray t (0, 0))) (j : Nat) (hj : j < l.length) : w1.cell? ⟨b, j, none⟩ = some (.string (l.getD j ByteArray.empty)) := by
  refine (blk_cell h j).trans ?_
  simp only [List.getElem?_toArray, List.getElem?_map, List.getD_eq_getElem?_getD]
  rw [List.getElem?_eq_getElem hj]
  rfl
set_option maxHeartbeats 8000000 in
set_option maxRecDepth 100000 in
theorem impl_parseTaskLine.calls (k : Nat) (s : ByteArray) (r1 r2 r3 : Int) (r4 : Bool) (w : World) (h : impl_parseTaskLine.f k s = some (r1, r2, r3, r4)) (hGL : GL w := by first | exact HGL.out | exact GL.below HGL.out (by repeat (first | (with_reducible first | exact HB.out | apply below_alloc | apply pw_below_drewN | apply below_drew1 | refine below_set ?_ (Aside0.out (by assumption))) | exact HB.out))) :
    Calls Tryd.prog 88 #[.string s] w fun e w' => e = .returned (.tuple #[.agg #[.int .i64 r1, .int .i64 r2, .int .i64 r3], .bool r4]) ∧ Below w.heap.size w w' := by
  unfold impl_parseTaskLine.f at h
  by_cases hs : s.size < 4294967281
  · rw [if_pos hs] at h
    obtain ⟨n, hn⟩ : ∃ n, Lib.countB s ⟨#[32]⟩ = n := ⟨_, rfl⟩
    rw [hn] at h
    have HC := Aside0.mk (show ∀ W, Calls Tryd.prog 97 #[.string s, .string ⟨#[32]⟩] W fun e w' => e = .returned (.slice (some ⟨W.heap.size, 0, none⟩) (n + 1) (n + 1)) ∧ w' = W.alloc (.cells ((impl_parseStmt.wsOf s).map Value.string).toArray 9) by
      intro W; rw [← hn]; exact Tryd.strings_Split_one s 32 W hs)
    have HLen := Aside0.mk (show (impl_parseStmt.wsOf s).length = n + 1 by rw [← hn]; exact Lib.splitB_all ⟨#[32]⟩ (Nat.le_refl 1) 0 _ s rfl)
    have HS := Aside0.mk hs
    clear hn hs
    have HG := Aside0.mk hGL
    clear hGL
    by_cases hn3 : n = 3
    · subst hn3
      rw [if_pos rfl] at h
      have hz1 := impl_parseStmt.word_size s 1
      have hz2 := impl_parseStmt.word_size s 2
      have hz3 := impl_parseStmt.word_size s 3
      obtain ⟨y1, hy1⟩ : ∃ v, (impl_parseStmt.wsOf s).getD 1 ByteArray.empty = v := ⟨_, rfl⟩
      obtain ⟨y2, hy2⟩ : ∃ v, (impl_parseStmt.wsOf s).getD 2 ByteArray.empty = v := ⟨_, rfl⟩
      obtain ⟨y3, hy3⟩ : ∃ v, (impl_parseStmt.wsOf s).getD 3 ByteArray.empty = v := ⟨_, rfl⟩
      unfold impl_parseTaskLine.at at h
      rw [hy1] at hz1
      rw [hy2] at hz2
      rw [hy3] at hz3
      rw [hy1, hy2, hy3] at h
      have HSY := Aside0.mk (show y1.size ≤ 281474976710656 ∧ y2.size ≤ 281474976710656 ∧ y3.size ≤ 281474976710656 from ⟨by have := HS.out; omega, by have := HS.out; omega, by have := HS.out; omega⟩)
      clear hz1 hz2 hz3
      have HY := Aside0.mk (And.intro hy1 (And.intro hy2 hy3))
      clear hy1 hy2 hy3
      obtain ⟨v1, hv1⟩ : ∃ v, impl_parseStmt.atv y1 = v := ⟨_, rfl⟩
      obtain ⟨v2, hv2⟩ : ∃ v, impl_parseStmt.atv y2 = v := ⟨_, rfl⟩
      obtain ⟨v3, hv3⟩ : ∃ v, impl_parseStmt.atv y3 = v := ⟨_, rfl⟩
      rw [hv1, hv2, hv3] at h
      have HGs : Aside0 (∀ W, Below w.heap.size w W → (∃ tp p, W.var? Tryd.prog "strconv.ErrSyntax" = some #[.iface tp p]) ∧ (∃ tp p, W.var? Tryd.prog "strconv.ErrRange" = some #[.iface tp p])) := ⟨fun W hb => ⟨(GL.below HG.out hb).syn, (GL.below HG.out hb).ran⟩⟩
      have HV1 := Aside0.mk hv1
      have HV2 := Aside0.mk hv2
      have HV3 := Aside0.mk hv3
      have HH := Aside0.mk h
      clear h hv1 hv2 hv3
      go_enter Tryd.func88, Tryd.ntmps88
      go_wp2_with (first | (go_at_call 97; (with_reducible refine (HC.out _).mono ?_); rintro e w1 ⟨rfl, hw⟩; have HRb := Aside0.mk (show w1.heap[w.heap.size]? = some (.cells #[.int .i64 0, .int .i64 0, .int .i64 0] 25 (0, 0)) from by rw [hw]; exact blk_alloc (blk_new w _) _); have HB1 := Aside0.mk (show Below w.heap.size w w1 from by rw [hw]; exact below_alloc (below_alloc (Below.refl _ _) _) _); have HZ := Aside0.mk (show w1.heap.size = w.heap.size + 2 from by rw [hw]; simp); have HWb := Aside0.mk (show w1.heap[w.heap.size + 1]? = some (.cells ((impl_parseStmt.wsOf s).map Value.string).toArray 9 (0, 0)) from by rw [hw]; exact (by simp : (w.alloc (.cells #[.int .i64 0, .int .i64 0, .int .i64 0] 25)).heap.size = w.heap.size + 1) ▸ blk_new (w.alloc (.cells #[.int .i64 0, .int .i64 0, .int .i64 0] 25)) _); have HW1 := Aside0.mk (show w1.cell? ⟨w.heap.size + 1, 1, none⟩ = some (.string y1) from (impl_parseTaskLine.word_cell HWb.out 1 (by rw [HLen.out]; decide)).trans (by rw [HY.out.1])); have HW2 := Aside0.mk (show w1.cell? ⟨w.heap.size + 1, 2, none⟩ = some (.string y2) from (impl_parseTaskLine.word_cell HWb.out 2 (by rw [HLen.out]; decide)).trans (by rw [HY.out.2.1])); have HW3 := Aside0.mk (show w1.cell? ⟨w.heap.size + 1, 3, none⟩ = some (.string y3) from (impl_parseTaskLine.word_cell HWb.out 3 (by rw [HLen.out]; decide)).trans (by rw [HY.out.2.2])); clear hw))
      go_loopg [20] 3 (fun kq v20 wr => ∃ (x c0 c1 c2 : Int), v20 = .int .i64 x ∧ Aside0 (x + kq = 3 ∧ 0 ≤ x) ∧ Aside0 ((0 < x → c0 = v1) ∧ (1 < x → c1 = v2) ∧ (2 < x → c2 = v3)) ∧ Aside0 (wr.heap[w1.heap.size]? = some (.cells #[.int .i64 c0, .int .i64 c1, .int .i64 c2] 25 (0, 0))) ∧ Aside0 (wr.heap[w1.heap.size + 1]? = some (.cells #[.pointer (some ⟨w1.heap.size, 0, none⟩), .pointer (some ⟨w1.heap.size, 1, none⟩), .pointer (some ⟨w1.heap.size, 2, none⟩)] 118 (0, 0))) ∧ Aside0 (Below w1.heap.size w1 wr))
      case atStart => exact ⟨0, 0, 0, 0, rfl, ⟨by omega⟩, ⟨fun z => absurd z (by decide), fun z => absurd z (by decide), fun z => absurd z (by decide)⟩, ⟨blk_alloc (blk_new w1 _) _⟩, ⟨(by simp : (w1.alloc (.cells #[.int .i64 0, .int .i64 0, .int .i64 0] 25)).heap.size = w1.heap.size + 1) ▸ blk_new (w1.alloc (.cells #[.int .i64 0, .int .i64 0, .int .i64 0] 25)) _⟩, ⟨below_alloc (below_alloc (Below.refl _ _) _) _⟩⟩
      case round =>
        obtain ⟨x, c0, c1, c2, rfl, HX, HV, HE, HP, HBr⟩ := hrel
        rcases (show x = 0 ∨ x = 1 ∨ x = 2 ∨ x = 3 by have := HX.out; omega) with hx | hx | hx | hx
        · subst hx
          obtain ⟨k1, rfl⟩ : ∃ m, gk = m + 1 := ⟨gk - 1, by have := HX.out; omega⟩
          have hp := (blk_cell HP.out 0).trans (show _ = some (Value.pointer (some ⟨w1.heap.size, 0, none⟩)) from rfl)
          have hwr := (HBr.out.cell (World.block_lt_of_cell? _ _ HW1.out)).trans HW1.out
          have hgg := HGs.out wr (HB1.out.trans (HBr.out.mono (by have := HZ.out; omega)))
          have HG9 := Aside0.mk hgg
          clear hgg
          go_wp2_with (first | (go_at_call 77; have hca := impl_parseStmt.atoi_calls y1 HSY.out.1 wr HG9.out.1 HG9.out.2; (with_reducible refine hca.mono ?_); clear hca; rintro e w9 ⟨⟨xe, rfl⟩, hb⟩; have HE9 := Aside0.mk (blk_below HE.out hb); have HP9 := Aside0.mk (blk_below HP.out hb); have HB9 := Aside0.mk (below_step HBr.out hb); have hcs : w9.cell? ⟨w1.heap.size, 0, none⟩ = some (.int .i64 c0) := (blk_cell HE9.out 0).trans rfl; have hfs := blk_frozen HE9.out 0; clear hb))
          go_roundg k1
          case measure => omega
          case rel =>
            exact ⟨1, _, c1, c2, rfl, ⟨by have := HX.out; omega⟩, ⟨fun _ => HV1.out, fun z => absurd z (by decide), fun z => absurd z (by decide)⟩, ⟨blk_put (cs := #[.int .i64 c0, .int .i64 c1, .int .i64 c2]) HE9.out 0 _ rfl⟩, ⟨(Below.heap_setCell w9 ⟨w1.heap.size, 0, none⟩ _ (w1.heap.size + 1) (by simp)).trans HP9.out⟩, ⟨below_set HB9.out (Nat.le_refl _)⟩⟩
        · subst hx
          obtain ⟨k1, rfl⟩ : ∃ m, gk = m + 1 := ⟨gk - 1, by have := HX.out; omega⟩
          have hp := (blk_cell HP.out 1).trans (show _ = some (Value.pointer (some ⟨w1.heap.size, 1, none⟩)) from rfl)
          have hwr := (HBr.out.cell (World.block_lt_of_cell? _ _ HW2.out)).trans HW2.out
          have hgg := HGs.out wr (HB1.out.trans (HBr.out.mono (by have := HZ.out; omega)))
          have HG9 := Aside0.mk hgg
          clear hgg
          go_wp2_with (first | (go_at_call 77; have hca := impl_parseStmt.atoi_calls y2 HSY.out.2.1 wr HG9.out.1 HG9.out.2; (with_reducible refine hca.mono ?_); clear hca; rintro e w9 ⟨⟨xe, rfl⟩, hb⟩; have HE9 := Aside0.mk (blk_below HE.out hb); have HP9 := Aside0.mk (blk_below HP.out hb); have HB9 := Aside0.mk (below_step HBr.out hb); have hcs : w9.cell? ⟨w1.heap.size, 1, none⟩ = some (.int .i64 c1) := (blk_cell HE9.out 1).trans rfl; have hfs := blk_frozen HE9.out 1; clear hb))
          go_roundg k1
          case measure => omega
          case rel =>
            exact ⟨2, c0, _, c2, rfl, ⟨by have := HX.out; omega⟩, ⟨fun _ => HV.out.1 (by decide), fun _ => HV2.out, fun z => absurd z (by decide)⟩, ⟨blk_put (cs := #[.int .i64 c0, .int .i64 c1, .int .i64 c2]) HE9.out 1 _ rfl⟩, ⟨(Below.heap_setCell w9 ⟨w1.heap.size, 1, none⟩ _ (w1.heap.size + 1) (by simp)).trans HP9.out⟩, ⟨below_set HB9.out (Nat.le_refl _)⟩⟩
        · subst hx
          obtain ⟨k1, rfl⟩ : ∃ m, gk = m + 1 := ⟨gk - 1, by have := HX.out; omega⟩
          have hp := (blk_cell HP.out 2).trans (show _ = some (Value.pointer (some ⟨w1.heap.size, 2, none⟩)) from rfl)
          have hwr := (HBr.out.cell (World.block_lt_of_cell? _ _ HW3.out)).trans HW3.out
          have hgg := HGs.out wr (HB1.out.trans (HBr.out.mono (by have := HZ.out; omega)))
          have HG9 := Aside0.mk hgg
          clear hgg
          go_wp2_with (first | (go_at_call 77; have hca := impl_parseStmt.atoi_calls y3 HSY.out.2.2 wr HG9.out.1 HG9.out.2; (with_reducible refine hca.mono ?_); clear hca; rintro e w9 ⟨⟨xe, rfl⟩, hb⟩; have HE9 := Aside0.mk (blk_below HE.out hb); have HP9 := Aside0.mk (blk_below HP.out hb); have HB9 := Aside0.mk (below_step HBr.out hb); have hcs : w9.cell? ⟨w1.heap.size, 2, none⟩ = some (.int .i64 c2) := (blk_cell HE9.out 2).trans rfl; have hfs := blk_frozen HE9.out 2; clear hb))
          go_roundg k1
          case measure => omega
          case rel =>
            exact ⟨3, c0, c1, _, rfl, ⟨by have := HX.out; omega⟩, ⟨fun _ => HV.out.1 (by decide), fun _ => HV.out.2.1 (by decide), fun _ => HV3.out⟩, ⟨blk_put (cs := #[.int .i64 c0, .int .i64 c1, .int .i64 c2]) HE9.out 2 _ rfl⟩, ⟨(Below.heap_setCell w9 ⟨w1.heap.size, 2, none⟩ _ (w1.heap.size + 1) (by simp)).trans HP9.out⟩, ⟨below_set HB9.out (Nat.le_refl _)⟩⟩
        · subst hx
          have h1 := HV.out.1 (by decide)
          have h2 := HV.out.2.1 (by decide)
          have h3 := HV.out.2.2 (by decide)
          subst h1 h2 h3
          clear HV
          go_wp2
          obtain ⟨t, hA, h⟩ := Option.bind_eq_some_iff.mp HH.out
          have HA := Aside0.mk hA
          clear hA HH
          cases t with
          | true =>
            rw [if_pos rfl] at h
            obtain ⟨u, hU, h⟩ := Option.bind_eq_some_iff.mp h
            have HU := Aside0.mk hU
            clear hU
            simp only [Option.some.injEq, Prod.mk.injEq] at h
            obtain ⟨rfl, rfl, rfl, rfl⟩ := h
            have HB := Aside0.mk (below_drew1 (HB1.out.trans (HBr.out.mono (by have := HZ.out; omega))))
            have BKR := Aside0.mk (blk_drew ((HBr.out.block w.heap.size (by have := HZ.out; omega)).trans HRb.out))
            have BKE := Aside0.mk (blk_drew HE.out)
            have HN := Aside0.mk (show w1.heap.size ≠ w.heap.size by have := HZ.out; omega)
            have HM := Aside0.mk (show w.heap.size ≠ w1.heap.size by have := HZ.out; omega)
            have GEe := Aside0.mk (show w.heap.size ≤ w1.heap.size by have := HZ.out; omega)
            clear HE HP HBr HW1 HW2 HW3 HB1 HWb HZ HRb
            refine start_ (n := 11) (S := fun w' => w'.cell? ⟨w1.heap.size, 0, none⟩ = some (.int .i64 c0) ∧ w'.cell? ⟨w1.heap.size, 1, none⟩ = some (.int .i64 c1) ∧ w'.cell? ⟨w1.heap.size, 2, none⟩ = some (.int .i64 c2)) (ds := []) #[false, false, false, false, false, false, false, false, false, false, false] (by kernel_rfl) rfl rfl ⟨(blk_cell BKE.out 0).trans rfl, (blk_cell BKE.out 1).trans rfl, (blk_cell BKE.out 2).trans rfl⟩ (fun hHeld => ?_); refine with_tabW impl_parseTaskLine.tab impl_parseTaskLine.bits (fun HT_ HW_ => ?_)
            generalize wr.drew = w31 at BKR BKE HB hHeld ⊢
            refine take_ (i := 0) (N := some 37) (v := ?_) (a' := ?_) #[true, false, false, false, false, false, false, false, false, false, false] rfl rfl (take_ofW HT_.out HW_.out (by kernel_rfl)) (fun _ _ _ h => h) (Or.inl ⟨by rfl, ?_⟩) hHeld ?_ ?_
            rotate_left
            · rintro w' ⟨s0, s1, s2⟩
              go_simp
              with_reducible rfl
            rotate_left
            · simp only [Act.put, List.setIfInBounds_toArray, List.set_cons_zero, List.set_cons_succ, i64_w, i32_w]
              rfl
            refine take_ (i := 1) (N := some 38) (v := ?_) (a' := ?_) #[true, true, false, false, false, false, false, false, false, false, false] rfl rfl (take_ofW HT_.out HW_.out (by kernel_rfl)) (fun _ _ _ h => h) (Or.inl ⟨by rfl, ?_⟩) hHeld ?_ ?_
            rotate_left
            · rintro w' ⟨s0, s1, s2⟩
              go_simp
              with_reducible rfl
            rotate_left
            · simp only [Act.put, List.setIfInBounds_toArray, List.set_cons_zero, List.set_cons_succ, i64_w, i32_w]
              rfl
            refine one_ (i := 2) (N := some 39) #[true, true, true, false, false, false, false, false, false, false, false] rfl rfl (one_of HT_.out (by kernel_rfl)) (by decide) (fun K hK => ?_)
            refine goes_ Tryd.func59 (by kernel_rfl) rfl #[.agg #[.int .i64 c0, .int .i64 c1, .int .i64 c2]] (by rfl) rfl rfl (by (try simp only [List.map_toArray, List.map_cons, List.map_nil]); first | done | rfl) ?_
            with_reducible refine (impl_ExprOk.calls c0 c1 c2 true _ HA.out).mono ?_
            rintro e w32 ⟨rfl, hb⟩
            refine ⟨_, rfl, ?_⟩
            have n1_ := Aside0.mk (blk_below (g := w.heap.size) (o := .cells #[.int .i64 0, .int .i64 0, .int .i64 0] 25 (0, 0)) BKR.out hb)
            have n2_ := Aside0.mk (blk_below (g := w1.heap.size) (o := .cells #[.int .i64 c0, .int .i64 c1, .int .i64 c2] 25 (0, 0)) BKE.out hb)
            have n3_ := Aside0.mk (below_step HB.out hb)
            clear BKR BKE HB hb hHeld
            have BKR := n1_
            have BKE := n2_
            have HB := n3_
            clear n1_ n2_ n3_
            refine hK.out _ _ ⟨(blk_cell BKE.out 0).trans rfl, (blk_cell BKE.out 1).trans rfl, (blk_cell BKE.out 2).trans rfl⟩ (fun hHeld => ?_)
            clear hK K
            refine norm_ (a' := ?_) ?_ ?_
            rotate_left
            · show Act.put _ (some 39) _ = _
              simp only [Act.put, List.setIfInBounds_toArray, List.set_cons_zero, List.set_cons_succ, i64_w, i32_w]
              rfl
            refine pure_ (i := 3) (N := some 40) (v := ?_) (a' := ?_) #[true, true, true, true, false, false, false, false, false, false, false] rfl rfl (any_of HT_.out (by kernel_rfl)) (fun _ _ _ h => h) (Or.inl ⟨by rfl, ?_⟩) ?_ ?_
            rotate_left
            · intro w'
              go_simp
              with_reducible rfl
            rotate_left
            · simp only [Act.put, List.setIfInBounds_toArray, List.set_cons_zero, List.set_cons_succ, i64_w, i32_w]
              rfl
            refine pure_ (i := 6) (N := some 43) (v := ?_) (a' := ?_) #[true, true, true, true, false, false, true, false, false, false, false] rfl rfl (any_of HT_.out (by kernel_rfl)) (fun _ _ _ h => h) (Or.inl ⟨by rfl, ?_⟩) ?_ ?_
            rotate_left
            · intro w'
              go_simp
              with_reducible rfl
            rotate_left
            · simp only [Act.put, List.setIfInBounds_toArray, List.set_cons_zero, List.set_cons_succ, i64_w, i32_w]
              rfl
            refine take_ (i := 4) (N := some 41) (v := ?_) (a' := ?_) #[true, true, true, true, true, false, true, false, false, false, false] rfl rfl (take_ofW HT_.out HW_.out (by kernel_rfl)) (fun _ _ _ h => h) (Or.inl ⟨by rfl, ?_⟩) hHeld ?_ ?_
            rotate_left
            · rintro w' ⟨s0, s1, s2⟩
              go_simp
              with_reducible rfl
            rotate_left
            · simp only [Act.put, List.setIfInBounds_toArray, List.set_cons_zero, List.set_cons_succ, i64_w, i32_w]
              rfl
            refine one_ (i := 5) (N := some 42) #[true, true, true, true, true, true, true, false, false, false, false] rfl rfl (one_of HT_.out (by kernel_rfl)) (by decide) (fun K hK => ?_)
            refine goes_ Tryd.func83 (by kernel_rfl) rfl #[.agg #[.int .i64 c0, .int .i64 c1, .int .i64 c2]] (by rfl) rfl rfl (by (try simp only [List.map_toArray, List.map_cons, List.map_nil]); first | done | rfl) ?_
            with_reducible refine (impl_taskLine.calls k c0 c1 c2 u _ HU.out (GL.below HG.out HB.out)).mono ?_
            rintro e w33 ⟨rfl, hb⟩
            refine ⟨_, rfl, ?_⟩
            have n1_ := Aside0.mk (blk_below (g := w.heap.size) (o := .cells #[.int .i64 0, .int .i64 0, .int .i64 0] 25 (0, 0)) BKR.out hb)
            have n2_ := Aside0.mk (blk_below (g := w1.heap.size) (o := .cells #[.int .i64 c0, .int .i64 c1, .int .i64 c2] 25 (0, 0)) BKE.out hb)
            have n3_ := Aside0.mk (below_step HB.out hb)
            clear BKR BKE HB hb hHeld
            have BKR := n1_
            have BKE := n2_
            have HB := n3_
            clear n1_ n2_ n3_
            refine hK.out _ _ ⟨(blk_cell BKE.out 0).trans rfl, (blk_cell BKE.out 1).trans rfl, (blk_cell BKE.out 2).trans rfl⟩ (fun hHeld => ?_)
            clear hK K
            refine norm_ (a' := ?_) ?_ ?_
            rotate_left
            · show Act.put _ (some 42) _ = _
              simp only [Act.put, List.setIfInBounds_toArray, List.set_cons_zero, List.set_cons_succ, i64_w, i32_w]
              rfl
            refine pure_ (i := 7) (N := some 44) (v := ?_) (a' := ?_) #[true, true, true, true, true, true, true, true, false, false, false] rfl rfl (any_of HT_.out (by kernel_rfl)) (fun _ _ _ h => h) (Or.inl ⟨by rfl, ?_⟩) ?_ ?_
            rotate_left
            · intro w'
              go_simp
              with_reducible rfl
            rotate_left
            · simp only [Act.put, List.setIfInBounds_toArray, List.set_cons_zero, List.set_cons_succ, i64_w, i32_w]
              rfl
            refine pure_ (i := 8) (N := some 45) (v := ?_) (a' := ?_) #[true, true, true, true, true, true, true, true, true, false, false] rfl rfl (any_of HT_.out (by kernel_rfl)) (fun _ _ _ h => h) (Or.inl ⟨by rfl, ?_⟩) ?_ ?_
            rotate_left
            · intro w'
              go_simp
              with_reducible rfl
            rotate_left
            · simp only [Act.put, List.setIfInBounds_toArray, List.set_cons_zero, List.set_cons_succ, i64_w, i32_w]
              rfl
            refine one_ (i := 9) (N := none) #[true, true, true, true, true, true, true, true, true, true, false] rfl rfl (one_of HT_.out (by kernel_rfl)) (by decide) (fun K hK => ?_)
            have hs0 : w33.cell? ⟨w.heap.size, 0, none⟩ = some (.int .i64 0) := (blk_cell BKR.out 0).trans rfl
            have hfs0 := blk_frozen BKR.out 0
            have hs1 : w33.cell? ⟨w.heap.size, 1, none⟩ = some (.int .i64 0) := (blk_cell BKR.out 1).trans rfl
            have hfs1 := blk_frozen BKR.out 1
            have hs2 : w33.cell? ⟨w.heap.size, 2, none⟩ = some (.int .i64 0) := (blk_cell BKR.out 2).trans rfl
            have hfs2 := blk_frozen BKR.out 2
            have hns := HN.out
            have hms := HM.out
            refine skip_ (w1 := ?_) (by rfl) rfl ?_ ?_
            rotate_left
            · go_simp
              rfl
            refine hK.out _ _ ⟨(cell_far (p := ⟨w.heap.size, _, none⟩) HN.out _).trans ((cell_far (p := ⟨w.heap.size, _, none⟩) HN.out _).trans ((cell_far (p := ⟨w.heap.size, _, none⟩) HN.out _).trans (hHeld.1))), (cell_far (p := ⟨w.heap.size, _, none⟩) HN.out _).trans ((cell_far (p := ⟨w.heap.size, _, none⟩) HN.out _).trans ((cell_far (p := ⟨w.heap.size, _, none⟩) HN.out _).trans (hHeld.2.1))), (cell_far (p := ⟨w.heap.size, _, none⟩) HN.out _).trans ((cell_far (p := ⟨w.heap.size, _, none⟩) HN.out _).trans ((cell_far (p := ⟨w.heap.size, _, none⟩) HN.out _).trans (hHeld.2.2)))⟩ (fun hHeld => ?_)
            clear hK K
            refine pure_ (i := 10) (N := some 3) (v := ?_) (a' := ?_) #[true, true, true, true, true, true, true, true, true, true, true] rfl rfl (any_of HT_.out (by kernel_rfl)) (fun _ _ _ h => h) (Or.inl ⟨by rfl, ?_⟩) ?_ ?_
            rotate_left
            · intro w'
              go_simp
              with_reducible rfl
            rotate_left
            · simp only [Act.put, List.setIfInBounds_toArray, List.set_cons_zero, List.set_cons_succ, i64_w, i32_w]
              rfl
            refine done_ (done_of HT_.out (by kernel_rfl)) ?_
            try go_wp2
            refine bodyPost_ret (results_ct rfl _ _ w.heap.size 25 #[.int .i64 c0, .int .i64 c1, .int .i64 c2] (0, 0) _ rfl (by (with_reducible repeat (first | refine blk_drewN ?_ _ | refine blk_drew ?_ | refine blk_alloc ?_ _)); refine blk_put (cs := #[.int .i64 c0, .int .i64 c1, .int .i64 0]) ?_ 2 _ rfl; (with_reducible repeat (first | refine blk_drewN ?_ _ | refine blk_drew ?_ | refine blk_alloc ?_ _)); refine blk_put (cs := #[.int .i64 c0, .int .i64 0, .int .i64 0]) ?_ 1 _ rfl; (with_reducible repeat (first | refine blk_drewN ?_ _ | refine blk_drew ?_ | refine blk_alloc ?_ _)); refine blk_put (cs := #[.int .i64 0, .int .i64 0, .int .i64 0]) ?_ 0 _ rfl; (with_reducible repeat (first | refine blk_drewN ?_ _ | refine blk_drew ?_ | refine blk_alloc ?_ _)); exact BKR.out) Tryd.underlying25 rfl (by kernel_rfl)) rfl ?_
            exact ⟨by first | rfl | (simp <;> rfl), by repeat (first | (with_reducible first | exact HB.out | apply below_alloc | apply pw_below_drewN | apply below_drew1 | refine below_set ?_ (Nat.le_refl _)) | exact HB.out)⟩
          | false =>
            rw [if_neg (by decide)] at h
            simp only [Option.some.injEq, Prod.mk.injEq] at h
            obtain ⟨rfl, rfl, rfl, rfl⟩ := h
            have HB := Aside0.mk (below_drew1 (HB1.out.trans (HBr.out.mono (by have := HZ.out; omega))))
            have BKR := Aside0.mk (blk_drew ((HBr.out.block w.heap.size (by have := HZ.out; omega)).trans HRb.out))
            have BKE := Aside0.mk (blk_drew HE.out)
            have HN := Aside0.mk (show w1.heap.size ≠ w.heap.size by have := HZ.out; omega)
            have HM := Aside0.mk (show w.heap.size ≠ w1.heap.size by have := HZ.out; omega)
            have GEe := Aside0.mk (show w.heap.size ≤ w1.heap.size by have := HZ.out; omega)
            clear HE HP HBr HW1 HW2 HW3 HB1 HWb HZ HRb
            refine start_ (n := 11) (S := fun w' => w'.cell? ⟨w1.heap.size, 0, none⟩ = some (.int .i64 c0) ∧ w'.cell? ⟨w1.heap.size, 1, none⟩ = some (.int .i64 c1) ∧ w'.cell? ⟨w1.heap.size, 2, none⟩ = some (.int .i64 c2)) (ds := []) #[false, false, false, false, false, false, false, false, false, false, false] (by kernel_rfl) rfl rfl ⟨(blk_cell BKE.out 0).trans rfl, (blk_cell BKE.out 1).trans rfl, (blk_cell BKE.out 2).trans rfl⟩ (fun hHeld => ?_); refine with_tabW impl_parseTaskLine.tab impl_parseTaskLine.bits (fun HT_ HW_ => ?_)
            generalize wr.drew = w31 at BKR BKE HB hHeld ⊢
            refine take_ (i := 0) (N := some 37) (v := ?_) (a' := ?_) #[true, false, false, false, false, false, false, false, false, false, false] rfl rfl (take_ofW HT_.out HW_.out (by kernel_rfl)) (fun _ _ _ h => h) (Or.inl ⟨by rfl, ?_⟩) hHeld ?_ ?_
            rotate_left
            · rintro w' ⟨s0, s1, s2⟩
              go_simp
              with_reducible rfl
            rotate_left
            · simp only [Act.put, List.setIfInBounds_toArray, List.set_cons_zero, List.set_cons_succ, i64_w, i32_w]
              rfl
            refine take_ (i := 1) (N := some 38) (v := ?_) (a' := ?_) #[true, true, false, false, false, false, false, false, false, false, false] rfl rfl (take_ofW HT_.out HW_.out (by kernel_rfl)) (fun _ _ _ h => h) (Or.inl ⟨by rfl, ?_⟩) hHeld ?_ ?_
            rotate_left
            · rintro w' ⟨s0, s1, s2⟩
              go_simp
              with_reducible rfl
            rotate_left
            · simp only [Act.put, List.setIfInBounds_toArray, List.set_cons_zero, List.set_cons_succ, i64_w, i32_w]
              rfl
            refine one_ (i := 2) (N := some 39) #[true, true, true, false, false, false, false, false, false, false, false] rfl rfl (one_of HT_.out (by kernel_rfl)) (by decide) (fun K hK => ?_)
            refine goes_ Tryd.func59 (by kernel_rfl) rfl #[.agg #[.int .i64 c0, .int .i64 c1, .int .i64 c2]] (by rfl) rfl rfl (by (try simp only [List.map_toArray, List.map_cons, List.map_nil]); first | done | rfl) ?_
            with_reducible refine (impl_ExprOk.calls c0 c1 c2 false _ HA.out).mono ?_
            rintro e w32 ⟨rfl, hb⟩
            refine ⟨_, rfl, ?_⟩
            have n1_ := Aside0.mk (blk_below (g := w.heap.size) (o := .cells #[.int .i64 0, .int .i64 0, .int .i64 0] 25 (0, 0)) BKR.out hb)
            have n2_ := Aside0.mk (blk_below (g := w1.heap.size) (o := .cells #[.int .i64 c0, .int .i64 c1, .int .i64 c2] 25 (0, 0)) BKE.out hb)
            have n3_ := Aside0.mk (below_step HB.out hb)
            clear BKR BKE HB hb hHeld
            have BKR := n1_
            have BKE := n2_
            have HB := n3_
            clear n1_ n2_ n3_
            refine hK.out _ _ ⟨(blk_cell BKE.out 0).trans rfl, (blk_cell BKE.out 1).trans rfl, (blk_cell BKE.out 2).trans rfl⟩ (fun hHeld => ?_)
            clear hK K
            refine norm_ (a' := ?_) ?_ ?_
            rotate_left
            · show Act.put _ (some 39) _ = _
              simp only [Act.put, List.setIfInBounds_toArray, List.set_cons_zero, List.set_cons_succ, i64_w, i32_w]
              rfl
            refine pure_ (i := 3) (N := some 40) (v := ?_) (a' := ?_) #[true, true, true, true, false, false, false, false, false, false, false] rfl rfl (any_of HT_.out (by kernel_rfl)) (fun _ _ _ h => h) (Or.inl ⟨by rfl, ?_⟩) ?_ ?_
            rotate_left
            · intro w'
              go_simp
              with_reducible rfl
            rotate_left
            · simp only [Act.put, List.setIfInBounds_toArray, List.set_cons_zero, List.set_cons_succ, i64_w, i32_w]
              rfl
            refine pure_ (i := 4) (N := some 41) (v := undef) (a' := ?_) #[true, true, true, true, true, false, false, false, false, false, false] rfl rfl (any_of HT_.out (by kernel_rfl)) (fun _ _ _ h => h) (Or.inr ⟨by rfl, rfl⟩) ?_ ?_
            rotate_left
            · simp only [Act.put, List.setIfInBounds_toArray, List.set_cons_zero, List.set_cons_succ, i64_w, i32_w]
              rfl
            refine pure_ (i := 5) (N := some 42) (v := undef) (a' := ?_) #[true, true, true, true, true, true, false, false, false, false, false] rfl rfl (any_of HT_.out (by kernel_rfl)) (fun _ _ _ h => h) (Or.inr ⟨by rfl, rfl⟩) ?_ ?_
            rotate_left
            · simp only [Act.put, List.setIfInBounds_toArray, List.set_cons_zero, List.set_cons_succ, i64_w, i32_w]
              rfl
            refine pure_ (i := 6) (N := some 43) (v := undef) (a' := ?_) #[true, true, true, true, true, true, true, false, false, false, false] rfl rfl (any_of HT_.out (by kernel_rfl)) (fun _ _ _ h => h) (Or.inr ⟨by rfl, rfl⟩) ?_ ?_
            rotate_left
            · simp only [Act.put, List.setIfInBounds_toArray, List.set_cons_zero, List.set_cons_succ, i64_w, i32_w]
              rfl
            refine pure_ (i := 7) (N := some 44) (v := undef) (a' := ?_) #[true, true, true, true, true, true, true, true, false, false, false] rfl rfl (any_of HT_.out (by kernel_rfl)) (fun _ _ _ h => h) (Or.inr ⟨by rfl, rfl⟩) ?_ ?_
            rotate_left
            · simp only [Act.put, List.setIfInBounds_toArray, List.set_cons_zero, List.set_cons_succ, i64_w, i32_w]
              rfl
            refine pure_ (i := 8) (N := some 45) (v := ?_) (a' := ?_) #[true, true, true, true, true, true, true, true, true, false, false] rfl rfl (any_of HT_.out (by kernel_rfl)) (fun _ _ _ h => h) (Or.inl ⟨by rfl, ?_⟩) ?_ ?_
            rotate_left
            · intro w'
              go_simp
              with_reducible rfl
            rotate_left
            · simp only [Act.put, List.setIfInBounds_toArray, List.set_cons_zero, List.set_cons_succ, i64_w, i32_w]
              rfl
            refine one_ (i := 9) (N := none) #[true, true, true, true, true, true, true, true, true, true, false] rfl rfl (one_of HT_.out (by kernel_rfl)) (by decide) (fun K hK => ?_)
            have hs0 : w32.cell? ⟨w.heap.size, 0, none⟩ = some (.int .i64 0) := (blk_cell BKR.out 0).trans rfl
            have hfs0 := blk_frozen BKR.out 0
            have hs1 : w32.cell? ⟨w.heap.size, 1, none⟩ = some (.int .i64 0) := (blk_cell BKR.out 1).trans rfl
            have hfs1 := blk_frozen BKR.out 1
            have hs2 : w32.cell? ⟨w.heap.size, 2, none⟩ = some (.int .i64 0) := (blk_cell BKR.out 2).trans rfl
            have hfs2 := blk_frozen BKR.out 2
            have hns := HN.out
            have hms := HM.out
            refine skip_ (w1 := ?_) (by rfl) rfl ?_ ?_
            rotate_left
            · go_simp
              rfl
            refine hK.out _ _ ⟨(cell_far (p := ⟨w.heap.size, _, none⟩) HN.out _).trans ((cell_far (p := ⟨w.heap.size, _, none⟩) HN.out _).trans ((cell_far (p := ⟨w.heap.size, _, none⟩) HN.out _).trans (hHeld.1))), (cell_far (p := ⟨w.heap.size, _, none⟩) HN.out _).trans ((cell_far (p := ⟨w.heap.size, _, none⟩) HN.out _).trans ((cell_far (p := ⟨w.heap.size, _, none⟩) HN.out _).trans (hHeld.2.1))), (cell_far (p := ⟨w.heap.size, _, none⟩) HN.out _).trans ((cell_far (p := ⟨w.heap.size, _, none⟩) HN.out _).trans ((cell_far (p := ⟨w.heap.size, _, none⟩) HN.out _).trans (hHeld.2.2)))⟩ (fun hHeld => ?_)
            clear hK K
            refine pure_ (i := 10) (N := some 3) (v := ?_) (a' := ?_) #[true, true, true, true, true, true, true, true, true, true, true] rfl rfl (any_of HT_.out (by kernel_rfl)) (fun _ _ _ h => h) (Or.inl ⟨by rfl, ?_⟩) ?_ ?_
            rotate_left
            · intro w'
              go_simp
              with_reducible rfl
            rotate_left
            · simp only [Act.put, List.setIfInBounds_toArray, List.set_cons_zero, List.set_cons_succ, i64_w, i32_w]
              rfl
            refine done_ (done_of HT_.out (by kernel_rfl)) ?_
            try go_wp2
            refine bodyPost_ret (results_ct rfl _ _ w.heap.size 25 #[.int .i64 c0, .int .i64 c1, .int .i64 c2] (0, 0) _ rfl (by (with_reducible repeat (first | refine blk_drewN ?_ _ | refine blk_drew ?_ | refine blk_alloc ?_ _)); refine blk_put (cs := #[.int .i64 c0, .int .i64 c1, .int .i64 0]) ?_ 2 _ rfl; (with_reducible repeat (first | refine blk_drewN ?_ _ | refine blk_drew ?_ | refine blk_alloc ?_ _)); refine blk_put (cs := #[.int .i64 c0, .int .i64 0, .int .i64 0]) ?_ 1 _ rfl; (with_reducible repeat (first | refine blk_drewN ?_ _ | refine blk_drew ?_ | refine blk_alloc ?_ _)); refine blk_put (cs := #[.int .i64 0, .int .i64 0, .int .i64 0]) ?_ 0 _ rfl; (with_reducible repeat (first | refine blk_drewN ?_ _ | refine blk_drew ?_ | refine blk_alloc ?_ _)); exact BKR.out) Tryd.underlying25 rfl (by kernel_rfl)) rfl ?_
            exact ⟨by first | rfl | (simp <;> rfl), by repeat (first | (with_reducible first | exact HB.out | apply below_alloc | apply pw_below_drewN | apply below_drew1 | refine below_set ?_ (Nat.le_refl _)) | exact HB.out)⟩
    · rw [if_neg hn3] at h
      simp only [Option.some.injEq, Prod.mk.injEq] at h
      obtain ⟨rfl, rfl, rfl, rfl⟩ := h
      have hn1 : ((n : Int) + 1 == 4) = false := by simp; omega
      have hn1c : ((n : Int) + 1 != 4) = true := by rw [bne, hn1]; rfl
      clear hn3
      go_enter Tryd.func88, Tryd.ntmps88
      go_wp2_with (first | (go_at_call 97; (with_reducible refine (HC.out _).mono ?_); rintro e w1 ⟨rfl, hw⟩; have HRb := Aside0.mk (show w1.heap[w.heap.size]? = some (.cells #[.int .i64 0, .int .i64 0, .int .i64 0] 25 (0, 0)) from by rw [hw]; exact blk_alloc (blk_new w _) _); have HB1 := Aside0.mk (show Below w.heap.size w w1 from by rw [hw]; exact below_alloc (below_alloc (Below.refl _ _) _) _); have HZ := Aside0.mk (show w1.heap.size = w.heap.size + 2 from by rw [hw]; simp); have HWb := Aside0.mk (show w1.heap[w.heap.size + 1]? = some (.cells ((impl_parseStmt.wsOf s).map Value.string).toArray 9 (0, 0)) from by rw [hw]; exact (by simp : (w.alloc (.cells #[.int .i64 0, .int .i64 0, .int .i64 0] 25)).heap.size = w.heap.size + 1) ▸ blk_new (w.alloc (.cells #[.int .i64 0, .int .i64 0, .int .i64 0] 25)) _); have hr0 : w1.cell? ⟨w.heap.size, 0, none⟩ = some (.int .i64 0) := (blk_cell HRb.out 0).trans rfl; have hrf0 := blk_frozen HRb.out 0; have hr1 : w1.cell? ⟨w.heap.size, 1, none⟩ = some (.int .i64 0) := (blk_cell HRb.out 1).trans rfl; have hrf1 := blk_frozen HRb.out 1; have hr2 : w1.cell? ⟨w.heap.size, 2, none⟩ = some (.int .i64 0) := (blk_cell HRb.out 2).trans rfl; have hrf2 := blk_frozen HRb.out 2; clear hw))
      refine bodyPost_ret (results_ct rfl _ _ w.heap.size 25 #[.int .i64 0, .int .i64 0, .int .i64 0] (0, 0) _ rfl (by (with_reducible repeat (first | refine blk_drewN ?_ _ | refine blk_drew ?_ | refine blk_alloc ?_ _)); refine blk_put (cs := #[.int .i64 0, .int .i64 0, .int .i64 0]) ?_ 2 _ rfl; (with_reducible repeat (first | refine blk_drewN ?_ _ | refine blk_drew ?_ | refine blk_alloc ?_ _)); refine blk_put (cs := #[.int .i64 0, .int .i64 0, .int .i64 0]) ?_ 1 _ rfl; (with_reducible repeat (first | refine blk_drewN ?_ _ | refine blk_drew ?_ | refine blk_alloc ?_ _)); refine blk_put (cs := #[.int .i64 0, .int .i64 0, .int .i64 0]) ?_ 0 _ rfl; (with_reducible repeat (first | refine blk_drewN ?_ _ | refine blk_drew ?_ | refine blk_alloc ?_ _)); exact HRb.out) Tryd.underlying25 rfl (by kernel_rfl)) rfl ?_
      exact ⟨rfl, by repeat (first | (with_reducible first | exact HB1.out | apply below_alloc | apply pw_below_drewN | apply below_drew1 | refine below_set ?_ (Nat.le_refl _)) | exact HB1.out)⟩
  · rw [if_neg hs] at h; cases h


end Go.Proofs.YtcpmkcidehhbiaaDoor.PFnProgramTexts
