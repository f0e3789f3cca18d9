/- Walks of the functions that a statement reaches, written by a program (the printing program, mended): no condition. -/
import Derived.Test.YtcpmkcidehhbiaaGreatDoorPFnExactParseProgramx0
import Derived.Test.YtcpmkcidehhbiaaGreatDoorPFnExactParseProgramx12
import Derived.Test.YtcpmkcidehhbiaaGreatDoorPFnExactParseProgramx14
namespace Go.Proofs.YtcpmkcidehhbiaaGreatDoor.PFnExactParseProgram
open Go.RowKit Go.Proofs.YtcpmkcidehhbiaaGreatDoorW.PrintWords Go.Proofs.YtcpmkcidehhbiaaGreatDoorW.PrintLast Go.Proofs.YtcpmkcidehhbiaaGreatDoorW.PrintMore
attribute [local go_sem] max2_int min2_int max_two min_two max_three min_three max_four min_four
set_option linter.unusedVariables false
set_option maxRecDepth 100000
set_option maxHeartbeats 8000000
set_option linter.unusedSimpArgs false
def impl_parseStmt.psT : Bool × List (List Nat × List Nat) := (true, [([], []), ([], []), ([1], [1]), ([2], [2]), ([0, 3, 0], [0, 3]), ([4], [4]), ([], []), ([6, 5, 4, 0, 1, 2, 3, 4, 5, 6], [5, 6])])
def impl_parseStmt.psB : List Nat := [0, 0, 2, 6, 15, 31, 0, 127]
theorem impl_parseStmt.ps_tab : rtab .any (opsOf Tryz.f16 2) = impl_parseStmt.psT := by kernel_rfl
theorem impl_parseStmt.ps_bits : waitsOk impl_parseStmt.psT.2 impl_parseStmt.psB = true := by kernel_rfl
def impl_parseStmt.stNames : List ByteArray := [(⟨#[]⟩ : ByteArray), (⟨#[115, 101, 116]⟩ : ByteArray), (⟨#[115, 101, 110, 115, 101]⟩ : ByteArray), (⟨#[115, 101, 110, 100]⟩ : ByteArray), (⟨#[105, 102]⟩ : ByteArray), (⟨#[108, 111, 111, 112]⟩ : ByteArray), (⟨#[101, 110, 100]⟩ : ByteArray)]
def impl_parseStmt.wsOf (s : ByteArray) : List ByteArray := Lib.splitB ⟨#[32]⟩ 0 (Lib.countB s ⟨#[32]⟩) s
def impl_parseStmt.kindOf (s : ByteArray) : Int := Lib.idxOfS impl_parseStmt.stNames ((impl_parseStmt.wsOf s).getD 0 ByteArray.empty)
theorem impl_parseStmt.names_calls (w : World) : Calls Tryz.prog 35 #[] w fun e w' => ∃ (g c : Nat), e = .returned (.slice (some ⟨g, 0, none⟩) 7 c) ∧ (∀ j, j < impl_parseStmt.stNames.length → w'.cell? ⟨g, 0 + j, none⟩ = some (.string (impl_parseStmt.stNames.getD j ByteArray.empty))) ∧ Below w.heap.size w w' := by
 refine (impl_stmtNames.calls impl_parseStmt.stNames w rfl).mono ?_
 rintro e w' ⟨v, rfl, ho, hb⟩
 have h1 := Kd.own_of_R ho
 rcases h1.2 with ⟨_, h0⟩ | ⟨g, cap, cur, hv, -, hg, hcap, -, hcur, htake⟩
 ·cases h0
 refine ⟨g, cap, by rw [hv]; rfl, fun j hj => ?_, hb⟩
 have := h1.cells (g := g) (by rw [hv]; rfl) j (.string (impl_parseStmt.stNames.getD j ByteArray.empty)) (by
  unfold encs
  rw [List.getElem?_map, List.getD_eq_getElem?_getD, List.getElem?_eq_getElem hj]; rfl)
 rw [add_plain] at this
 rw [Nat.zero_add]; exact this
theorem impl_parseStmt.index_calls (g c : Nat) (x : ByteArray) (w : World) (h : ∀ j, j < impl_parseStmt.stNames.length → w.cell? ⟨g, 0 + j, none⟩ = some (.string (impl_parseStmt.stNames.getD j ByteArray.empty))) :
  Calls Tryz.prog 34 #[.slice (some ⟨g, 0, none⟩) 7 c, .string x] w fun e w' => e = .returned (.int .i64 (Lib.idxOfS impl_parseStmt.stNames x)) ∧ w' = w :=
 Tryz.slices_Index_string g 0 7 c impl_parseStmt.stNames x w (Nat.le_refl 7) (by decide) h
def impl_parseStmt.dP (gs : Nat) : Kd Nat := Kd.scalar (fun o : Nat => Value.pointer (some ⟨gs, o, none⟩)) (fun _ => rfl)
theorem impl_parseStmt.info118 : (Tryz.prog.info? 61).map (fun i => (i.zero, i.size, i.bytes)) = some (some (.pointer none), 1, 8) := by kernel_rfl
def impl_parseStmt.offs1 (K : Int) : List Nat := if K = 1 ∨ K = 2 then [1] else []
def impl_parseStmt.offs2 (K : Int) : List Nat := if K = 2 ∨ K = 5 then [2] else []
def impl_parseStmt.offs3 (K : Int) : List Nat := if K = 1 ∨ K = 3 ∨ K = 4 then [3, 4, 5] else []
theorem impl_parseStmt.offs_len (K : Int) : (impl_parseStmt.offs1 K).length ≤ 1 ∧ (impl_parseStmt.offs2 K).length ≤ 1 ∧ (impl_parseStmt.offs3 K).length ≤ 3 := by
 unfold impl_parseStmt.offs1 impl_parseStmt.offs2 impl_parseStmt.offs3
 refine ⟨?_, ?_, ?_⟩ <;> split <;> simp
theorem impl_parseStmt.hv_tells (K : Int) : impl_hasVar.f K = some (decide (K = 1 ∨ K = 2)) := by
 unfold impl_hasVar.f
 by_cases h : K = 1
 ·rw [if_pos h]; simp [h]
 rw [if_neg h]; simp [h]; rfl
theorem impl_parseStmt.hn_tells (K : Int) : impl_hasN.f K = some (decide (K = 2 ∨ K = 5)) := by
 unfold impl_hasN.f
 by_cases h : K = 2
 ·rw [if_pos h]; simp [h]
 rw [if_neg h]; simp [h]; rfl
theorem impl_parseStmt.he_tells (K : Int) : impl_hasExpr.f K = some (decide (K = 1 ∨ K = 3 ∨ K = 4)) := by
 unfold impl_hasExpr.f
 by_cases h : K = 1
 ·rw [if_pos h]; simp [h]
 rw [if_neg h]
 by_cases h2 : K = 3
 ·rw [if_pos h2]; simp [h2]
 rw [if_neg h2]; simp [h, h2]; rfl
def impl_parseStmt.atv (s : ByteArray) : Int := match Lib.atoiAll s.data.toList with
 | .ok v => v
 | .range => Lib.atoiSat s.data.toList
 | _ => 0
theorem impl_parseStmt.atoi_calls (s : ByteArray) (hs : s.size ≤ 281474976710656) (w : World) (hsyn : ∃ tp p, w.var? Tryz.prog "strconv.ErrSyntax" = some #[.iface tp p]) (hran : ∃ tp p, w.var? Tryz.prog "strconv.ErrRange" = some #[.iface tp p]) :
  Calls Tryz.prog 31 #[.string s] w fun e w' => (∃ x, e = .returned (.tuple #[.int .i64 (impl_parseStmt.atv s), x])) ∧ Below w.heap.size w w' := by
 cases ha : Lib.atoiAll s.data.toList with
 | ok v =>
  have e : impl_parseStmt.atv s = v := by unfold impl_parseStmt.atv; rw [ha]
  rw [e]
  refine (Tryz.strconv_Atoi_ok s (by omega) v ha w).mono ?_
  rintro e w' ⟨rfl, hw⟩
  refine ⟨⟨_, rfl⟩, ?_⟩
  rcases hw with rfl | ⟨t, rfl⟩
  ·exact Below.refl _ _
  exact Lib.bytesWorld_below _ _ _
 | range =>
  have e : impl_parseStmt.atv s = Lib.atoiSat s.data.toList := by unfold impl_parseStmt.atv; rw [ha]
  rw [e]
  obtain ⟨tp, p, hv⟩ := hran
  refine (Tryz.strconv_Atoi_range_var s hs ha tp p w hv).mono ?_
  rintro e w' ⟨N, rfl, -, -, hb⟩
  exact ⟨⟨_, rfl⟩, hb⟩
 | _ =>
  have e : impl_parseStmt.atv s = 0 := by unfold impl_parseStmt.atv; rw [ha]
  rw [e]
  obtain ⟨tp, p, hv⟩ := hsyn
  refine (Tryz.strconv_Atoi_syntax_var s hs ha tp p w hv).mono ?_
  rintro e w' ⟨N, rfl, -, -, hb⟩
  exact ⟨⟨_, rfl⟩, hb⟩
theorem impl_parseStmt.at_ptr {gs : Nat} {w : World} {A : Option Addr} {n : Nat} {xs : List Nat} (h : (impl_parseStmt.dP gs).C w A n xs) (i : Int) (h0 : 0 ≤ i) (h1 : i < n) : ∃ ad, A = some ad ∧ w.cell? (ad.add i.toNat) = some (.pointer (some ⟨gs, rdOf 0 xs i, none⟩)) :=
 ReadsOf.at_ (Kd.reads_of_C (enc := fun o : Nat => Value.pointer (some ⟨gs, o, none⟩)) (d := 0) (h1 := fun _ => rfl) h) i h0 h1
def impl_parseStmt.fill (ws : List ByteArray) : List Nat → Nat → List Int → List Int
 | [], _, c => c
 | o :: r, i, c => impl_parseStmt.fill ws r (i + 1) (c.set o (impl_parseStmt.atv (ws.getD (i + 1) ByteArray.empty)))
theorem impl_parseStmt.fill_len (ws : List ByteArray) (l : List Nat) : ∀ i c, (impl_parseStmt.fill ws l i c).length = c.length := by
 induction l with
 | nil => intro i c; rfl
 | cons o r ih => intro i c; unfold impl_parseStmt.fill; rw [ih, List.length_set]
def impl_parseStmt.cellsI (c : List Int) : Array Value := (c.map fun n => Value.int .i64 n).toArray
theorem impl_parseStmt.cellsI_set (c : List Int) (o : Nat) (n : Int) : (impl_parseStmt.cellsI c).setIfInBounds o (.int .i64 n) = impl_parseStmt.cellsI (c.set o n) := by
 unfold impl_parseStmt.cellsI
 rw [List.setIfInBounds_toArray, List.map_set]
theorem impl_parseStmt.offs_in (K : Int) : ∀ o ∈ impl_parseStmt.offs1 K ++ impl_parseStmt.offs2 K ++ impl_parseStmt.offs3 K, 1 ≤ o ∧ o ≤ 5 := by
 intro o ho
 unfold impl_parseStmt.offs1 impl_parseStmt.offs2 impl_parseStmt.offs3 at ho
 simp only [List.mem_append] at ho
 rcases ho with (ho | ho) | ho
 ·split at ho <;> simp at ho; omega
 ·split at ho <;> simp at ho; omega
 split at ho <;> simp at ho; omega
theorem impl_parseStmt.piece_size (sep : ByteArray) : ∀ (k : Nat) (s : ByteArray), ∀ x ∈ Lib.splitB sep 0 k s, x.size ≤ s.size
 | 0, s => by intro x hx; simp [Lib.splitB] at hx; subst hx; exact Nat.le_refl _
 | k + 1, s => by
  intro x hx
  unfold Lib.splitB at hx
  split at hx
  ·simp at hx; subst hx; exact Nat.le_refl _
  rcases List.mem_cons.1 hx with e | hx
  ·subst e; rw [ByteArray.size_extract]; omega
  have h := impl_parseStmt.piece_size sep k _ x hx
  rw [ByteArray.size_extract] at h
  omega
theorem impl_parseStmt.word_size (s : ByteArray) (j : Nat) : ((impl_parseStmt.wsOf s).getD j ByteArray.empty).size ≤ s.size := by
 rw [List.getD_eq_getElem?_getD]
 rcases h : (impl_parseStmt.wsOf s)[j]? with _ | x
 ·exact Nat.zero_le _
 exact impl_parseStmt.piece_size _ _ s x (List.mem_of_getElem? h)
theorem impl_parseStmt.R_store {gs : Nat} {wr : World} {B : Nat} {v : Value} {xs : List Nat} {cs : Array Value} {o : Nat} (h : (impl_parseStmt.dP gs).R 61 wr B (fun _ => True) v xs) (hb : wr.heap[gs]? = some (.cells cs 35 (0, 0))) (u : Value) : (impl_parseStmt.dP gs).R 61 (wr.setCell ⟨gs, o, none⟩ u) B (fun _ => True) v xs :=
 Kd.R_of_own (ownsRow_setCell_other (Kd.own_of_R h) (fun e => Kd.R_ne h hb (by decide) e.symm) u) h.1
theorem impl_parseStmt.blk_store {gs o : Nat} {wr : World} {c : List Int} (h : wr.heap[gs]? = some (.cells (impl_parseStmt.cellsI c) 35 (0, 0))) (n : Int) : (wr.setCell ⟨gs, o, none⟩ (.int .i64 n)).heap[gs]? = some (.cells (impl_parseStmt.cellsI (c.set o n)) 35 (0, 0)) := by
 rw [← impl_parseStmt.cellsI_set]; exact blk_set h o _
theorem impl_parseStmt.cellsI_at (c : List Int) (o : Nat) (h : o < c.length) : (impl_parseStmt.cellsI c)[o]? = some (.int .i64 (c.getD o 0)) := by
 unfold impl_parseStmt.cellsI
 simp [List.getD_eq_getElem?_getD, h]
def impl_parseStmt.f (k : Nat) (s : ByteArray) : Option (Int × Int × Int × Int × Int × Int × Bool) :=
 if s.size < 4294967281 then
  if Lib.countB s ⟨#[32]⟩ = (impl_parseStmt.offs1 (impl_parseStmt.kindOf s) ++ impl_parseStmt.offs2 (impl_parseStmt.kindOf s) ++ impl_parseStmt.offs3 (impl_parseStmt.kindOf s)).length then
   match impl_parseStmt.fill (impl_parseStmt.wsOf s) (impl_parseStmt.offs1 (impl_parseStmt.kindOf s) ++ impl_parseStmt.offs2 (impl_parseStmt.kindOf s) ++ impl_parseStmt.offs3 (impl_parseStmt.kindOf s)) 0 [impl_parseStmt.kindOf s, 0, 0, 0, 0, 0] with
   | [q0, q1, q2, q3, q4, q5] => (impl_FormatStmt.f k q0 q1 q2 q3 q4 q5).bind fun own => if own.toList = [] then some (0, 0, 0, 0, 0, 0, false) else if own.toList = s.toList then some (q0, q1, q2, q3, q4, q5, true) else some (0, 0, 0, 0, 0, 0, false)
   | _ => none
  else some (0, 0, 0, 0, 0, 0, false)
 else none
theorem impl_parseStmt.mono : ∀ a0 k, LeO (impl_parseStmt.f k a0) (impl_parseStmt.f (k + 1) a0) := by
 intro a0 k
 unfold impl_parseStmt.f
 refine LeO.ite (LeO.ite ?_ (LeO.refl _)) (LeO.none _)
 generalize impl_parseStmt.fill (impl_parseStmt.wsOf a0) (impl_parseStmt.offs1 (impl_parseStmt.kindOf a0) ++ impl_parseStmt.offs2 (impl_parseStmt.kindOf a0) ++ impl_parseStmt.offs3 (impl_parseStmt.kindOf a0)) 0 [impl_parseStmt.kindOf a0, 0, 0, 0, 0, 0] = z
 match z with
 | [_, _, _, _, _, _] => exact LeO.bind (impl_FormatStmt.mono _ _ _ _ _ _ _) (fun _ => LeO.refl _)
 | [] => exact LeO.none _
 | [_] => exact LeO.none _
 | [_, _] => exact LeO.none _
 | [_, _, _] => exact LeO.none _
 | [_, _, _, _] => exact LeO.none _
 | [_, _, _, _, _] => exact LeO.none _
 | _ :: _ :: _ :: _ :: _ :: _ :: _ :: _ => exact LeO.none _
theorem impl_parseStmt.calls (k : Nat) (s : ByteArray) (r1 r2 r3 r4 r5 r6 : Int) (r7 : Bool) (w : World) (h : impl_parseStmt.f k s = some (r1, r2, r3, r4, r5, r6, r7)) (hGL : GL w := by first | exact HGL.out | exact GL.below HGL.out (by repeat (first | (with_reducible first | exact HB.out | apply z2 | apply z3 | apply z4 | refine zS ?_ (Aside0.out (by assumption))) | exact HB.out))) :
  Calls Tryz.prog 16 #[.string s] w fun e w' => e = .returned (.tuple #[.agg #[.int .i64 r1, .int .i64 r2, .int .i64 r3, .int .i64 r4, .int .i64 r5, .int .i64 r6], .bool r7]) ∧ Below w.heap.size w w' := by
 have hs : s.size < 4294967281 := by
  unfold impl_parseStmt.f at h
  by_cases c : s.size < 4294967281
  ·exact c
  rw [if_neg c] at h; cases h
 have hH : (if Lib.countB s ⟨#[32]⟩ = (impl_parseStmt.offs1 (impl_parseStmt.kindOf s) ++ impl_parseStmt.offs2 (impl_parseStmt.kindOf s) ++ impl_parseStmt.offs3 (impl_parseStmt.kindOf s)).length then
   match impl_parseStmt.fill (impl_parseStmt.wsOf s) (impl_parseStmt.offs1 (impl_parseStmt.kindOf s) ++ impl_parseStmt.offs2 (impl_parseStmt.kindOf s) ++ impl_parseStmt.offs3 (impl_parseStmt.kindOf s)) 0 [impl_parseStmt.kindOf s, 0, 0, 0, 0, 0] with
   | [q0, q1, q2, q3, q4, q5] => (impl_FormatStmt.f k q0 q1 q2 q3 q4 q5).bind fun own => if own.toList = [] then some (0, 0, 0, 0, 0, 0, false) else if own.toList = s.toList then some (q0, q1, q2, q3, q4, q5, true) else some (0, 0, 0, 0, 0, 0, false)
   | _ => none
  else some (0, 0, 0, 0, 0, 0, false)) = some (r1, r2, r3, r4, r5, r6, r7) := by
  unfold impl_parseStmt.f at h
  rw [if_pos hs] at h
  exact h
 clear h
 have HH := zM hH
 clear hH
 have HS := zM hs
 have HGs : Aside0 (∀ W, Below w.heap.size w W → GL W ∧ (∃ tp p, W.var? Tryz.prog "strconv.ErrSyntax" = some #[.iface tp p]) ∧ (∃ tp p, W.var? Tryz.prog "strconv.ErrRange" = some #[.iface tp p])) := ⟨fun W hb => ⟨GL.below hGL hb, (GL.below hGL hb).syn, (GL.below hGL hb).ran⟩⟩
 clear hGL
 have hc0 : (impl_parseStmt.wsOf s).length = Lib.countB s ⟨#[32]⟩ + 1 := Lib.splitB_all ⟨#[32]⟩ (Nat.le_refl 1) 0 _ s rfl
 go_enter Tryz.func16, Tryz.ntmps16
 go_wp2_with (first
  | (go_at_call 30; (with_reducible refine (Tryz.strings_Split_one s 32 _ HS.out).mono ?_); rintro e w1 ⟨rfl, rfl⟩))
 obtain ⟨W0, hW0⟩ : ∃ W0, w.alloc (.cells #[.int .i64 0, .int .i64 0, .int .i64 0, .int .i64 0, .int .i64 0, .int .i64 0] 35) = W0 := ⟨_, rfl⟩
 have hz0 : W0.heap.size = w.heap.size + 1 := by rw [← hW0]; simp
 rw [hW0]
 obtain ⟨W1, hW1⟩ : ∃ W1, W0.alloc (.cells ((impl_parseStmt.wsOf s).map Value.string).toArray 9) = W1 := ⟨_, rfl⟩
 rw [show ((Lib.splitB ⟨#[32]⟩ 0 (Lib.countB s ⟨#[32]⟩) s).map Value.string).toArray = ((impl_parseStmt.wsOf s).map Value.string).toArray from rfl, hW1]
 have hz1 : (impl_parseStmt.wsOf s).length ≠ 0 := by omega
 obtain ⟨w0, hw0⟩ : ∃ w0, (impl_parseStmt.wsOf s).getD 0 ByteArray.empty = w0 := ⟨_, rfl⟩
 have hcw : W1.drew.cell? ⟨w.heap.size + 1, 0, none⟩ = some (.string w0) := by
  show W1.cell? _ = _
  rw [← hW1, ← hz0]
  refine (z5 (blk_new W0 (.cells ((impl_parseStmt.wsOf s).map Value.string).toArray 9)) 0).trans ?_
  rw [← hw0]
  simp [List.getD_eq_getElem?_getD]
  rw [List.getElem?_eq_getElem (by omega)]
  rfl
 refine start_ (n := 8) (S := fun w' => w'.cell? ⟨w.heap.size + 1, 0, none⟩ = some (.string w0)) (ds := []) #[false, false, false, false, false, false, false, false] (by kernel_rfl) rfl rfl hcw (fun hHeld => ?_); refine with_tabW impl_parseStmt.ps_tab impl_parseStmt.ps_bits (fun HT_ HW_ => ?_)
 refine pure_ (i := 1) (N := some 13) (v := ?_) (a' := ?_) #[false, true, false, false, false, false, false, false] rfl rfl (any_of HT_.out (by kernel_rfl)) (fun _ _ _ h => h) (Or.inl ⟨by rfl, ?_⟩) ?_ ?_
 rotate_left
 ·intro w'
  go_simp
  with_reducible rfl
 rotate_left
 ·exact zu
 refine pure_ (i := 2) (N := some 14) (v := ?_) (a' := ?_) #[false, true, true, false, false, false, false, false] rfl rfl (any_of HT_.out (by kernel_rfl)) (fun _ _ _ h => h) (Or.inl ⟨by rfl, ?_⟩) ?_ ?_
 rotate_left
 ·intro w'
  go_simp
  with_reducible rfl
 rotate_left
 ·exact zu
 refine take_ (i := 3) (N := some 15) (v := ?_) (a' := ?_) #[false, true, true, true, false, false, false, false] rfl rfl (take_ofW HT_.out HW_.out (by kernel_rfl)) (fun _ _ _ h => h) (Or.inl ⟨by rfl, ?_⟩) hHeld ?_ ?_
 rotate_left
 ·rintro w' s0
  go_simp
  with_reducible rfl
 rotate_left
 ·exact zu
 refine join_ (σ := Value × Nat) 1 #[true, true, true, true, true, true, true, false] (fun s_ => [(12, s_.1), (16, .int .i64 (Lib.idxOfS impl_parseStmt.stNames w0)), (17, .agg #[.int .i64 (Lib.idxOfS impl_parseStmt.stNames w0), .int .i64 0, .int .i64 0, .int .i64 0, .int .i64 0, .int .i64 0]), (5, .pointer (some ⟨s_.2, 0, none⟩))]) (fun s_ w' => w'.cell? ⟨w.heap.size + 1, 0, none⟩ = some (.string w0) ∧ w'.heap[s_.2]? = some (.cells #[.int .i64 0, .int .i64 0, .int .i64 0, .int .i64 0, .int .i64 0, .int .i64 0] 35 (0, 0)) ∧ W1.heap.size ≤ s_.2 ∧ Below W1.heap.size W1 w') ?_ ?_
 rotate_left
 ·intro hCont
  refine two_ (i := 0) (j := 6) (Ni := some 12) (Nj := some 5) #[true, true, true, true, false, false, false, false] #[false, true, true, true, false, false, true, false] rfl rfl rfl rfl (two_of HT_.out (by kernel_rfl)) (by decide) (by decide) (fun K hK => ?_) (fun K hK => ?_)
  ·skip
   refine goes_ Tryz.func35 (by kernel_rfl) rfl #[] (by rfl) rfl rfl (by (try simp only [List.map_toArray, List.map_cons, List.map_nil]); first | done | rfl) ?_
   with_reducible refine (impl_parseStmt.names_calls _).mono ?_
   rintro e w2 ⟨gn, cn, rfl, hn, hb⟩
   have hHS := (hb.cell (zm _ _ hHeld)).trans hHeld
   refine ⟨_, rfl, ?_⟩
   refine hK.out _ _ hHS (fun hHeld => ?_)
   clear hK K
   refine norm_ (a' := ?_) ?_ ?_
   rotate_left
   ·show Act.put _ (some 12) _ = _
    exact zu
   have HBa := zM (show Below W1.heap.size W1 w2 from zQ (z4 (Below.refl _ _)) hb)
   refine two_ (i := 4) (j := 6) (Ni := some 16) (Nj := some 5) #[true, true, true, true, true, false, false, false] #[true, true, true, true, false, false, true, false] rfl rfl rfl rfl (two_of HT_.out (by kernel_rfl)) (by decide) (by decide) (fun K hK => ?_) (fun K hK => ?_)
   ·skip
    refine goes_ Tryz.func34 (by kernel_rfl) rfl #[.slice (some ⟨gn, 0, none⟩) 7 cn, .string w0] (by rfl) rfl rfl (by (try simp only [List.map_toArray, List.map_cons, List.map_nil]); first | done | rfl) ?_
    have hix := impl_parseStmt.index_calls gn cn w0 _ hn
    with_reducible refine hix.mono ?_
    rintro e w9 ⟨rfl, rfl⟩
    refine ⟨_, rfl, ?_⟩
    refine hK.out _ _ hHeld (fun hHeld => ?_)
    clear hK K hix
    refine norm_ (a' := ?_) ?_ ?_
    rotate_left
    ·show Act.put _ (some 16) _ = _
     exact zu
    refine pure_ (i := 5) (N := some 17) (v := ?_) (a' := ?_) #[true, true, true, true, true, true, false, false] rfl rfl (any_of HT_.out (by kernel_rfl)) (fun _ _ _ h => h) (Or.inl ⟨by rfl, ?_⟩) ?_ ?_
    rotate_left
    ·intro w'
     go_simp
     with_reducible rfl
    rotate_left
    ·exact zu
    refine one_ (i := 6) (N := some 5) #[true, true, true, true, true, true, true, false] rfl rfl (one_of HT_.out (by kernel_rfl)) (by decide) (fun K hK => ?_)
    refine box_step ?hg (N := 5) ?hd (cs := #[.int .i64 0, .int .i64 0, .int .i64 0, .int .i64 0, .int .i64 0, .int .i64 0]) (t := 35) ?hr ?_; (case hd => rfl); (case hg => rfl); (case hr => first | (go_simp; done) | (go_simp; rfl))
    intro gs hgs w3 hbox hbs
    have hHS := (hbs.cell (zm _ _ hHeld)).trans hHeld
    refine hK.out _ _ hHS (fun hHeld => ?_)
    clear hK K
    refine norm_ (a' := ?_) ?_ ?_
    rotate_left
    ·show Act.put _ (some 5) _ = _
     exact zu
    exact norm_ (by simp only [putAll, Act.put, List.setIfInBounds_toArray, List.set_cons_zero, List.set_cons_succ]) (hCont (.slice (some ⟨gn, 0, none⟩) 7 cn, gs) _ ⟨hHeld, hbox, by rw [hgs]; exact zR HBa.out, zQ HBa.out hbs⟩)
   skip
   refine box_step ?hg (N := 5) ?hd (cs := #[.int .i64 0, .int .i64 0, .int .i64 0, .int .i64 0, .int .i64 0, .int .i64 0]) (t := 35) ?hr ?_; (case hd => rfl); (case hg => rfl); (case hr => first | (go_simp; done) | (go_simp; rfl))
   intro gs hgs w3 hbox hbs
   have hHS := (hbs.cell (zm _ _ hHeld)).trans hHeld
   refine hK.out _ _ hHS (fun hHeld => ?_)
   clear hK K
   refine norm_ (a' := ?_) ?_ ?_
   rotate_left
   ·show Act.put _ (some 5) _ = _
    exact zu
   have hn2 : ∀ j, j < impl_parseStmt.stNames.length → w3.cell? ⟨gn, 0 + j, none⟩ = some (.string (impl_parseStmt.stNames.getD j ByteArray.empty)) := fun j hj => (hbs.cell (zm _ _ (hn j hj))).trans (hn j hj)
   clear hn
   have hn := hn2
   clear hn2
   refine one_ (i := 4) (N := some 16) #[true, true, true, true, true, false, true, false] rfl rfl (one_of HT_.out (by kernel_rfl)) (by decide) (fun K hK => ?_)
   refine goes_ Tryz.func34 (by kernel_rfl) rfl #[.slice (some ⟨gn, 0, none⟩) 7 cn, .string w0] (by rfl) rfl rfl (by (try simp only [List.map_toArray, List.map_cons, List.map_nil]); first | done | rfl) ?_
   have hix := impl_parseStmt.index_calls gn cn w0 _ hn
   with_reducible refine hix.mono ?_
   rintro e w9 ⟨rfl, rfl⟩
   refine ⟨_, rfl, ?_⟩
   refine hK.out _ _ hHeld (fun hHeld => ?_)
   clear hK K hix
   refine norm_ (a' := ?_) ?_ ?_
   rotate_left
   ·show Act.put _ (some 16) _ = _
    exact zu
   refine pure_ (i := 5) (N := some 17) (v := ?_) (a' := ?_) #[true, true, true, true, true, true, true, false] rfl rfl (any_of HT_.out (by kernel_rfl)) (fun _ _ _ h => h) (Or.inl ⟨by rfl, ?_⟩) ?_ ?_
   rotate_left
   ·intro w'
    go_simp
    with_reducible rfl
   rotate_left
   ·exact zu
   exact norm_ (by simp only [putAll, Act.put, List.setIfInBounds_toArray, List.set_cons_zero, List.set_cons_succ]) (hCont (.slice (some ⟨gn, 0, none⟩) 7 cn, gs) _ ⟨hHeld, hbox, by rw [hgs]; exact zR HBa.out, zQ HBa.out hbs⟩)
  skip
  refine box_step ?hg (N := 5) ?hd (cs := #[.int .i64 0, .int .i64 0, .int .i64 0, .int .i64 0, .int .i64 0, .int .i64 0]) (t := 35) ?hr ?_; (case hd => rfl); (case hg => rfl); (case hr => first | (go_simp; done) | (go_simp; rfl))
  intro gs hgs w3 hbox hbs
  have hHS := (hbs.cell (zm _ _ hHeld)).trans hHeld
  refine hK.out _ _ hHS (fun hHeld => ?_)
  clear hK K
  refine norm_ (a' := ?_) ?_ ?_
  rotate_left
  ·show Act.put _ (some 5) _ = _
   exact zu
  have HBa := zM (show Below W1.heap.size W1 w3 from zQ (z4 (Below.refl _ _)) hbs)
  refine one_ (i := 0) (N := some 12) #[true, true, true, true, false, false, true, false] rfl rfl (one_of HT_.out (by kernel_rfl)) (by decide) (fun K hK => ?_)
  refine goes_ Tryz.func35 (by kernel_rfl) rfl #[] (by rfl) rfl rfl (by (try simp only [List.map_toArray, List.map_cons, List.map_nil]); first | done | rfl) ?_
  with_reducible refine (impl_parseStmt.names_calls _).mono ?_
  rintro e w2 ⟨gn, cn, rfl, hn, hb⟩
  have hHS := (hb.cell (zm _ _ hHeld)).trans hHeld
  refine ⟨_, rfl, ?_⟩
  refine hK.out _ _ hHS (fun hHeld => ?_)
  clear hK K
  refine norm_ (a' := ?_) ?_ ?_
  rotate_left
  ·show Act.put _ (some 12) _ = _
   exact zu
  refine one_ (i := 4) (N := some 16) #[true, true, true, true, true, false, true, false] rfl rfl (one_of HT_.out (by kernel_rfl)) (by decide) (fun K hK => ?_)
  refine goes_ Tryz.func34 (by kernel_rfl) rfl #[.slice (some ⟨gn, 0, none⟩) 7 cn, .string w0] (by rfl) rfl rfl (by (try simp only [List.map_toArray, List.map_cons, List.map_nil]); first | done | rfl) ?_
  have hix := impl_parseStmt.index_calls gn cn w0 _ hn
  with_reducible refine hix.mono ?_
  rintro e w9 ⟨rfl, rfl⟩
  refine ⟨_, rfl, ?_⟩
  refine hK.out _ _ hHeld (fun hHeld => ?_)
  clear hK K hix
  refine norm_ (a' := ?_) ?_ ?_
  rotate_left
  ·show Act.put _ (some 16) _ = _
   exact zu
  refine pure_ (i := 5) (N := some 17) (v := ?_) (a' := ?_) #[true, true, true, true, true, true, true, false] rfl rfl (any_of HT_.out (by kernel_rfl)) (fun _ _ _ h => h) (Or.inl ⟨by rfl, ?_⟩) ?_ ?_
  rotate_left
  ·intro w'
   go_simp
   with_reducible rfl
  rotate_left
  ·exact zu
  exact norm_ (by simp only [putAll, Act.put, List.setIfInBounds_toArray, List.set_cons_zero, List.set_cons_succ]) (hCont (.slice (some ⟨gn, 0, none⟩) 7 cn, gs) _ ⟨hHeld, z7 hbox hb, by rw [hgs]; exact zR (z4 (Below.refl _ _)), zQ HBa.out hb⟩)
 rintro ⟨v12, gs⟩ w5 ⟨hHeld, hbox, hge, hb5⟩
 refine norm_ (a' := ?_) ?_ ?_
 rotate_left
 ·simp only [putAll, Act.put, List.setIfInBounds_toArray, List.set_cons_zero, List.set_cons_succ]
  rfl
 refine one_ (i := 7) (N := none) #[true, true, true, true, true, true, true, true] rfl rfl (one_of HT_.out (by kernel_rfl)) (by decide) (fun K hK => ?_)
 have hs0 : w5.cell? ⟨gs, 0, none⟩ = some (.int .i64 0) := (z5 hbox 0).trans rfl
 have hs1 : w5.cell? ⟨gs, 1, none⟩ = some (.int .i64 0) := (z5 hbox 1).trans rfl
 have hs2 : w5.cell? ⟨gs, 2, none⟩ = some (.int .i64 0) := (z5 hbox 2).trans rfl
 have hs3 : w5.cell? ⟨gs, 3, none⟩ = some (.int .i64 0) := (z5 hbox 3).trans rfl
 have hs4 : w5.cell? ⟨gs, 4, none⟩ = some (.int .i64 0) := (z5 hbox 4).trans rfl
 have hs5 : w5.cell? ⟨gs, 5, none⟩ = some (.int .i64 0) := (z5 hbox 5).trans rfl
 have hf0 := z6 hbox 0
 have hf1 := z6 hbox 1
 have hf2 := z6 hbox 2
 have hf3 := z6 hbox 3
 have hf4 := z6 hbox 4
 have hf5 := z6 hbox 5
 refine skip_ (w1 := ?_) (by rfl) rfl ?_ ?_
 rotate_left
 ·go_simp
  rfl
 obtain ⟨KK, hKK⟩ : ∃ z, Lib.idxOfS impl_parseStmt.stNames w0 = z := ⟨_, rfl⟩
 rw [hKK]
 have hkd : impl_parseStmt.kindOf s = KK := by rw [← hKK, ← hw0]; rfl
 have hH := HH.out
 rw [hkd] at hH
 clear HH hkd
 have HH := zM hH
 clear hH
 obtain ⟨w6, hw6⟩ : ∃ w6, ((((((w5.setCell ⟨gs, 0, none⟩ (.int .i64 KK)).setCell ⟨gs, 1, none⟩ (.int .i64 0)).setCell ⟨gs, 2, none⟩ (.int .i64 0)).setCell ⟨gs, 3, none⟩ (.int .i64 0)).setCell ⟨gs, 4, none⟩ (.int .i64 0)).setCell ⟨gs, 5, none⟩ (.int .i64 0)) = w6 := ⟨_, rfl⟩
 have hb6 : Below W1.heap.size W1 w6 := by rw [← hw6]; repeat (first | exact hb5 | refine zS ?_ hge)
 have hbk6 : w6.heap[gs]? = some (.cells #[.int .i64 KK, .int .i64 0, .int .i64 0, .int .i64 0, .int .i64 0, .int .i64 0] 35 (0, 0)) := by
  rw [← hw6]
  exact (blk_set (blk_set (blk_set (blk_set (blk_set (blk_set hbox 0 _) 1 _) 2 _) 3 _) 4 _) 5 _).trans rfl
 rw [hw6]
 have hcw1 : W1.cell? ⟨w.heap.size + 1, 0, none⟩ = some (.string w0) := hcw
 refine hK.out _ _ ((hb6.cell (zm _ _ hcw1)).trans hcw1) (fun hHeld => ?_)
 clear hK K hs0 hs1 hs2 hs3 hs4 hs5 hf0 hf1 hf2 hf3 hf4 hf5
 refine done_ (done_of HT_.out (by kernel_rfl)) ?_
 have BK := zM hbk6
 have HB := zM hb6
 have GE := zM hge
 clear hbk6 hb6 hge hb5 hw6 hbox hHeld
 have hc6 : w6.cell? ⟨gs, 0, none⟩ = some (.int .i64 KK) := (z5 BK.out 0).trans rfl
 go_upto_if 21 with (first
  | ((with_reducible refine gate_dst (N := 18) rfl ?_); refine Kd.R_lit (impl_parseStmt.dP gs) (w0 := W1) W1.heap.size 61 ?hg (N := 18) ?hd (xs := ([] : List Nat)) (inner := []) (ok := fun _ => True) (okp := fun _ => True) ?hr ?hp (fun _ hk => hk) trivial ?hB ?hS (by simp) ?_; (case hd => rfl); (case hg => rfl); (case hr => first | (go_simp; done) | (go_simp; rfl)); (case hp => exact (Reps.none _ _)); (case hB => exact HB.out); (case hS => exact zR HB.out); intro v6 w7 ho hb hg_ hnew_; have HO1 := zM ho; have HB1 := zM hb; have BK1 := zM (show w7.heap[gs]? = some (.cells #[.int .i64 KK, .int .i64 0, .int .i64 0, .int .i64 0, .int .i64 0, .int .i64 0] 35 (0, 0)) from blk_grown BK.out hg_ (by simp)); have hc7 : w7.cell? ⟨gs, 0, none⟩ = some (.int .i64 KK) := (z5 BK1.out 0).trans rfl; clear ho hb hg_ hnew_)
  | (go_at_call 36; (with_reducible refine (impl_hasVar.calls KK _ _ (impl_parseStmt.hv_tells KK)).mono ?_); rintro e w8 ⟨rfl, ⟨nd, rfl⟩⟩))
 (try simp only [Act.put, List.setIfInBounds_toArray, List.set_cons_zero, List.set_cons_succ])
 go_cut [6] (fun v6 wc => Aside0 (Kd.R (impl_parseStmt.dP gs) 61 wc W1.heap.size (fun _ => True) v6 (impl_parseStmt.offs1 KK)) ∧ Aside0 (wc.heap[gs]? = some (.cells #[.int .i64 KK, .int .i64 0, .int .i64 0, .int .i64 0, .int .i64 0, .int .i64 0] 35 (0, 0))) ∧ Aside0 (Below W1.heap.size W1 wc))
 case first =>
  by_cases c : KK = 1 ∨ KK = 2
  ·have hd : decide (KK = 1 ∨ KK = 2) = true := decide_eq_true c
   have ho1 : impl_parseStmt.offs1 KK = [] ++ [1] := by unfold impl_parseStmt.offs1; rw [if_pos c]; rfl
   go_wp2_with (first | ((with_reducible refine gate_builtin (b := .append) (xs := #[.tmp 22, .tmp 24]) rfl ?_); at_builtin; refine Kd.R_append (impl_parseStmt.dP gs) (w0 := W1) W1.heap.size rfl (.tmp 22) (.tmp 24) 62 61 (.pointer none) 8 rfl Tryz.underlying62 impl_parseStmt.info118 rfl Nat.zero_lt_one (by omega) v6 [] 1 [.pointer (some ⟨gs, 1, none⟩)] (fun _ => True) (fun _ => False) rfl rfl ?aP (fun _ hk => hk.elim) ?aF ?aO ?aB ?aS ?aL ?_; (case aP => exact rfl); (case aB => exact (by repeat (first | (with_reducible first | exact HB1.out | apply z2 | apply z3 | apply z4) | exact HB1.out))); (case aF => exact (fun _ _ => trivial)); (case aO => exact (by (with_reducible repeat (first | apply zI | apply zJ | apply zK)); exact HO1.out)); (case aS => exact (zR (by repeat (first | (with_reducible first | exact HB1.out | apply z2 | apply z3 | apply z4) | exact HB1.out)))); (case aL => have hll := impl_parseStmt.offs_len KK; simp only [List.length_nil]; omega); intro va wa ho hb hg hat; have BKa := zM (blk_grown (g := gs) (o := .cells #[.int .i64 KK, .int .i64 0, .int .i64 0, .int .i64 0, .int .i64 0, .int .i64 0] 35 (0, 0)) zk hg (Kd.R_ne HO1.out BK1.out (by decide))); have HOa := zM ho; have HBa := zM hb; clear ho hb hg hat))
   go_meet
   case rel => exact ⟨⟨by rw [ho1]; (with_reducible repeat (first | apply zI | apply zJ | apply zK)); exact HOa.out⟩, ⟨zk⟩, ⟨(by repeat (first | (with_reducible first | exact HBa.out | apply z2 | apply z3 | apply z4) | exact HBa.out))⟩⟩
  have hd : decide (KK = 1 ∨ KK = 2) = false := decide_eq_false c
  have ho1 : impl_parseStmt.offs1 KK = [] := by unfold impl_parseStmt.offs1; rw [if_neg c]
  go_wp2
  go_meet
  case rel => exact ⟨⟨by rw [ho1]; (with_reducible repeat (first | apply zI | apply zJ | apply zK)); exact HO1.out⟩, ⟨zk⟩, ⟨(by repeat (first | (with_reducible first | exact HB1.out | apply z2 | apply z3 | apply z4) | exact HB1.out))⟩⟩
 case rest =>
  clear HO1 HB1 BK1 HB BK hc6 hc7
  obtain ⟨HO1, BK1, HB1⟩ := hcut
  have hc8 : wc.cell? ⟨gs, 0, none⟩ = some (.int .i64 KK) := (z5 BK1.out 0).trans rfl
  go_upto_if 28 with (first
   | (go_at_call 37; (with_reducible refine (impl_hasN.calls KK _ _ (impl_parseStmt.hn_tells KK)).mono ?_); rintro e w8 ⟨rfl, ⟨nd, rfl⟩⟩))
  (try simp only [Act.put, List.setIfInBounds_toArray, List.set_cons_zero, List.set_cons_succ])
  go_cut [6] (fun v6 wc => Aside0 (Kd.R (impl_parseStmt.dP gs) 61 wc W1.heap.size (fun _ => True) v6 (impl_parseStmt.offs1 KK ++ impl_parseStmt.offs2 KK)) ∧ Aside0 (wc.heap[gs]? = some (.cells #[.int .i64 KK, .int .i64 0, .int .i64 0, .int .i64 0, .int .i64 0, .int .i64 0] 35 (0, 0))) ∧ Aside0 (Below W1.heap.size W1 wc))
  case first =>
   by_cases c : KK = 2 ∨ KK = 5
   ·have hd : decide (KK = 2 ∨ KK = 5) = true := decide_eq_true c
    have ho1 : impl_parseStmt.offs1 KK ++ impl_parseStmt.offs2 KK = impl_parseStmt.offs1 KK ++ [2] := by unfold impl_parseStmt.offs2; rw [if_pos c]
    go_wp2_with (first | ((with_reducible refine gate_builtin (b := .append) (xs := #[.tmp 29, .tmp 31]) rfl ?_); at_builtin; refine Kd.R_append (impl_parseStmt.dP gs) (w0 := W1) W1.heap.size rfl (.tmp 29) (.tmp 31) 62 61 (.pointer none) 8 rfl Tryz.underlying62 impl_parseStmt.info118 rfl Nat.zero_lt_one (by omega) u6 (impl_parseStmt.offs1 KK) 2 [.pointer (some ⟨gs, 2, none⟩)] (fun _ => True) (fun _ => False) rfl rfl ?aP (fun _ hk => hk.elim) ?aF ?aO ?aB ?aS ?aL ?_; (case aP => exact rfl); (case aB => exact (by repeat (first | (with_reducible first | exact HB1.out | apply z2 | apply z3 | apply z4) | exact HB1.out))); (case aF => exact (fun _ _ => trivial)); (case aO => exact (by (with_reducible repeat (first | apply zI | apply zJ | apply zK)); exact HO1.out)); (case aS => exact (zR (by repeat (first | (with_reducible first | exact HB1.out | apply z2 | apply z3 | apply z4) | exact HB1.out)))); (case aL => have hll := impl_parseStmt.offs_len KK; omega); intro va wa ho hb hg hat; have BKa := zM (blk_grown (g := gs) (o := .cells #[.int .i64 KK, .int .i64 0, .int .i64 0, .int .i64 0, .int .i64 0, .int .i64 0] 35 (0, 0)) zk hg (Kd.R_ne HO1.out BK1.out (by decide))); have HOa := zM ho; have HBa := zM hb; clear ho hb hg hat))
    go_meet
    case rel => exact ⟨⟨by rw [ho1]; (with_reducible repeat (first | apply zI | apply zJ | apply zK)); exact HOa.out⟩, ⟨zk⟩, ⟨(by repeat (first | (with_reducible first | exact HBa.out | apply z2 | apply z3 | apply z4) | exact HBa.out))⟩⟩
   have hd : decide (KK = 2 ∨ KK = 5) = false := decide_eq_false c
   have ho1 : impl_parseStmt.offs1 KK ++ impl_parseStmt.offs2 KK = impl_parseStmt.offs1 KK := by unfold impl_parseStmt.offs2; rw [if_neg c]; simp
   go_wp2
   go_meet
   case rel => exact ⟨⟨by rw [ho1]; (with_reducible repeat (first | apply zI | apply zJ | apply zK)); exact HO1.out⟩, ⟨zk⟩, ⟨(by repeat (first | (with_reducible first | exact HB1.out | apply z2 | apply z3 | apply z4) | exact HB1.out))⟩⟩
  case rest =>
   clear HO1 HB1 BK1 hc8
   obtain ⟨HO1, BK1, HB1⟩ := hcut
   have hc9 : wc.cell? ⟨gs, 0, none⟩ = some (.int .i64 KK) := (z5 BK1.out 0).trans rfl
   go_upto_if 35 with (first
    | (go_at_call 38; (with_reducible refine (impl_hasExpr.calls KK _ _ (impl_parseStmt.he_tells KK)).mono ?_); rintro e w8 ⟨rfl, ⟨nd, rfl⟩⟩))
   (try simp only [Act.put, List.setIfInBounds_toArray, List.set_cons_zero, List.set_cons_succ])
   go_cut [6] (fun v6 wc => Aside0 (Kd.R (impl_parseStmt.dP gs) 61 wc W1.heap.size (fun _ => True) v6 (impl_parseStmt.offs1 KK ++ impl_parseStmt.offs2 KK ++ impl_parseStmt.offs3 KK)) ∧ Aside0 (wc.heap[gs]? = some (.cells #[.int .i64 KK, .int .i64 0, .int .i64 0, .int .i64 0, .int .i64 0, .int .i64 0] 35 (0, 0))) ∧ Aside0 (Below W1.heap.size W1 wc))
   case first =>
    by_cases c : KK = 1 ∨ KK = 3 ∨ KK = 4
    ·have hd : decide (KK = 1 ∨ KK = 3 ∨ KK = 4) = true := decide_eq_true c
     have ho1 : impl_parseStmt.offs1 KK ++ impl_parseStmt.offs2 KK ++ impl_parseStmt.offs3 KK = impl_parseStmt.offs1 KK ++ impl_parseStmt.offs2 KK ++ [3, 4, 5] := by unfold impl_parseStmt.offs3; rw [if_pos c]
     go_wp2_with (first | ((with_reducible refine gate_dst (N := 43) rfl ?_); refine Kd.R_lit (impl_parseStmt.dP gs) _ 61 ?hg (N := 43) ?hd (xs := ([3, 4, 5] : List Nat)) (inner := [.pointer (some ⟨gs, 3, none⟩), .pointer (some ⟨gs, 4, none⟩), .pointer (some ⟨gs, 5, none⟩)]) (ok := fun _ => True) (okp := fun _ => True) ?hr ?hp (fun _ hk => hk) trivial (Below.refl _ _) (Nat.le_refl _) (by simp) ?_; (case hd => rfl); (case hg => rfl); (case hr => first | (go_simp; done) | (go_simp; rfl)); (case hp => exact (Reps.one (show Kd.M (impl_parseStmt.dP gs) _ _ _ 3 [.pointer (some ⟨gs, 3, none⟩)] from rfl) (Reps.one (show Kd.M (impl_parseStmt.dP gs) _ _ _ 4 [.pointer (some ⟨gs, 4, none⟩)] from rfl) (Reps.one (show Kd.M (impl_parseStmt.dP gs) _ _ _ 5 [.pointer (some ⟨gs, 5, none⟩)] from rfl) (Reps.none _ _))))); intro vl wl hol hb hg_ hnew_; clear hg_ hnew_; have HO3 := zM (Kd.R_elder' (by (with_reducible repeat (first | apply zI | apply zJ | apply zK)); exact HO1.out) (Kd.R_base hol) hb); have HL := zM (zf (Kd.R_new' hol (Kd.R_lt (by (with_reducible repeat (first | apply zI | apply zJ | apply zK)); exact HO1.out))) (zR (by repeat (first | (with_reducible first | exact HB1.out | apply z2 | apply z3 | apply z4) | exact HB1.out)))); have BK3 := zM (z7 (g := gs) (o := .cells #[.int .i64 KK, .int .i64 0, .int .i64 0, .int .i64 0, .int .i64 0, .int .i64 0] 35 (0, 0)) zk hb); have HB3 := zM (zQ (by repeat (first | (with_reducible first | exact HB1.out | apply z2 | apply z3 | apply z4) | exact HB1.out)) hb); clear hb hol; obtain ⟨Al, cl, el⟩ := Kd.R_slice HL.out; subst el) | ((with_reducible refine gate_builtin (b := .append) (xs := #[.tmp 36, .tmp 43]) rfl ?_); at_builtin; refine Kd.R_append_rows (impl_parseStmt.dP gs) (w0 := W1) W1.heap.size rfl (.tmp 36) (.tmp 43) 62 61 (.pointer none) 8 rfl Tryz.underlying62 impl_parseStmt.info118 rfl Nat.zero_lt_one (by omega) u6 (impl_parseStmt.offs1 KK ++ impl_parseStmt.offs2 KK) [3, 4, 5] _ _ _ (fun k_ => some k_ ≠ (.slice Al 3 cl : Value).ownBlock) (fun _ => False) rfl rfl ?aO ?aR (fun _ _ h => h) (fun _ h => h.elim) ?aF ?aB ?aS ?aL ?_; (case aR => repeat (first | exact (z9 HL.out).2.2 | (with_reducible refine zF ?_ _) | (with_reducible refine zG ?_ _) | (with_reducible refine zH ?_))); (case aB => exact (by repeat (first | (with_reducible first | exact HB3.out | apply z2 | apply z3 | apply z4) | exact HB3.out))); (case aF => exact (fun k_ hk => Kd.fresh' (Kd.R_lt (by (with_reducible repeat (first | apply zI | apply zJ | apply zK)); exact HL.out)) k_ hk)); (case aO => exact (by (with_reducible repeat (first | apply zI | apply zJ | apply zK)); exact z1 HO3.out (fun _ hk => hk.2))); (case aS => exact (zR (by repeat (first | (with_reducible first | exact HB3.out | apply z2 | apply z3 | apply z4) | exact HB3.out)))); (case aL => have hll := impl_parseStmt.offs_len KK; simp; omega); intro va wa ho hb hg hat; have BKa := zM (blk_grown (g := gs) (o := .cells #[.int .i64 KK, .int .i64 0, .int .i64 0, .int .i64 0, .int .i64 0, .int .i64 0] 35 (0, 0)) zk hg (Kd.R_ne HO3.out BK3.out (by decide))); have HOa := zM (z1 (ok' := fun _ => True) ho (fun _ _ => trivial)); have HBa := zM hb; clear ho hb hg hat))
     go_meet
     case rel => exact ⟨⟨by rw [ho1]; (with_reducible repeat (first | apply zI | apply zJ | apply zK)); exact HOa.out⟩, ⟨zk⟩, ⟨(by repeat (first | (with_reducible first | exact HBa.out | apply z2 | apply z3 | apply z4) | exact HBa.out))⟩⟩
    have hd : decide (KK = 1 ∨ KK = 3 ∨ KK = 4) = false := decide_eq_false c
    have ho1 : impl_parseStmt.offs1 KK ++ impl_parseStmt.offs2 KK ++ impl_parseStmt.offs3 KK = impl_parseStmt.offs1 KK ++ impl_parseStmt.offs2 KK := by unfold impl_parseStmt.offs3; rw [if_neg c]; simp
    go_wp2
    go_meet
    case rel => exact ⟨⟨by rw [ho1]; (with_reducible repeat (first | apply zI | apply zJ | apply zK)); exact HO1.out⟩, ⟨zk⟩, ⟨(by repeat (first | (with_reducible first | exact HB1.out | apply z2 | apply z3 | apply z4) | exact HB1.out))⟩⟩
   case rest =>
    clear HO1 HB1 BK1 hc9
    obtain ⟨HO1, BK1, HB1⟩ := hcut
    obtain ⟨A6, c6, e6⟩ := Kd.R_slice HO1.out
    subst e6
    have hoin := impl_parseStmt.offs_in KK
    have hol := impl_parseStmt.offs_len KK
    obtain ⟨OF, hOF⟩ : ∃ l, impl_parseStmt.offs1 KK ++ impl_parseStmt.offs2 KK ++ impl_parseStmt.offs3 KK = l := ⟨_, rfl⟩
    have hol5 : OF.length ≤ 5 := by rw [← hOF]; simp; omega
    have hH := HH.out
    rw [hOF] at HO1 hoin hH ⊢
    clear HH
    have HH := zM hH
    clear hH
    have hrb : W1.heap[w.heap.size]? = some (.cells #[.int .i64 0, .int .i64 0, .int .i64 0, .int .i64 0, .int .i64 0, .int .i64 0] 35 (0, 0)) := by
     rw [← hW1, ← hW0]; exact zP (blk_new w _) _
    have hz11 : W1.heap.size = w.heap.size + 2 := by rw [← hW1]; simp; omega
    by_cases cl : Lib.countB s ⟨#[32]⟩ = OF.length
    ·have hn1 : ((Lib.countB s ⟨#[32]⟩ : Int) + 1 == (OF.length : Int) + 1) = true := by rw [cl]; simp
     have hn1c : ((Lib.countB s ⟨#[32]⟩ : Int) + 1 != (OF.length : Int) + 1) = false := by rw [bne, hn1]; rfl
     have HCl := zM cl
     clear cl
     go_wp2
     clear hn1 hn1c
     go_loopg [54] OF.length (fun kq v54 wr => ∃ (x : Nat) (c : List Int), v54 = .int .i64 (x : Int) ∧ Aside0 (x + kq = OF.length) ∧ Aside0 (c.length = 6) ∧ Aside0 (impl_parseStmt.fill (impl_parseStmt.wsOf s) (OF.drop x) x c = impl_parseStmt.fill (impl_parseStmt.wsOf s) OF 0 [KK, 0, 0, 0, 0, 0]) ∧ Aside0 (wr.heap[gs]? = some (.cells (impl_parseStmt.cellsI c) 35 (0, 0))) ∧ Aside0 (Below W1.heap.size W1 wr) ∧ Aside0 (Kd.R (impl_parseStmt.dP gs) 61 wr W1.heap.size (fun _ => True) (.slice A6 OF.length c6) OF))
     case atStart => exact ⟨0, [KK, 0, 0, 0, 0, 0], rfl, ⟨by omega⟩, ⟨rfl⟩, ⟨by simp⟩, BK1, HB1, HO1⟩
     case round =>
      clear HO1 HB1 BK1
      obtain ⟨x, c, rfl, HX, HCL, HF, HBKr, HBr, HOr⟩ := hrel
      by_cases hlt : x < OF.length
      ·obtain ⟨k1, rfl⟩ : ∃ m, gk = m + 1 := ⟨gk - 1, by have := HX.out; omega⟩
       have hlt2 : (x : Int) < (OF.length : Int) := by omega
       have hd : decide ((x : Int) < (OF.length : Int)) = true := decide_eq_true hlt2
       obtain ⟨adp, eA, hpx⟩ := impl_parseStmt.at_ptr (z9 HOr.out).2.2 (x : Int) (by omega) hlt2
       cases eA
       rw [Int.toNat_natCast] at hpx
       obtain ⟨o, ho⟩ : ∃ o, OF[x] = o := ⟨_, rfl⟩
       have hrd : rdOf 0 OF (x : Int) = o := by unfold rdOf; rw [Int.toNat_natCast, List.getD_eq_getElem?_getD, List.getElem?_eq_getElem hlt, ho]; rfl
       rw [hrd] at hpx
       have hob := hoin o (by rw [← ho]; exact List.getElem_mem hlt)
       have HF2 := HF.out
       clear HF hrd
       rw [List.drop_eq_getElem_cons hlt, ho] at HF2
       have HF := zM (show impl_parseStmt.fill (impl_parseStmt.wsOf s) (OF.drop (x + 1)) (x + 1) (c.set o (impl_parseStmt.atv ((impl_parseStmt.wsOf s).getD (x + 1) ByteArray.empty))) = impl_parseStmt.fill (impl_parseStmt.wsOf s) OF 0 [KK, 0, 0, 0, 0, 0] from HF2)
       clear HF2
       have hwsz := impl_parseStmt.word_size s (x + 1)
       obtain ⟨wx, hwx⟩ : ∃ wx, (impl_parseStmt.wsOf s).getD (x + 1) ByteArray.empty = wx := ⟨_, rfl⟩
       rw [hwx] at HF hwsz
       have hw1 : W1.cell? ⟨w.heap.size + 1, x + 1, none⟩ = some (.string wx) := by
        rw [← hW1, ← hz0]
        refine (z5 (blk_new W0 (.cells ((impl_parseStmt.wsOf s).map Value.string).toArray 9)) (x + 1)).trans ?_
        rw [← hwx]
        simp only [List.getElem?_toArray, List.getElem?_map, List.getD_eq_getElem?_getD]
        rw [List.getElem?_eq_getElem (by have := HCl.out; omega)]
        rfl
       have hwr := (HBr.out.cell (zm _ _ hw1)).trans hw1
       have hix1 : decide ((x : Int) + 1 < (Lib.countB s ⟨#[32]⟩ : Int) + 1) = true := decide_eq_true (by have := HCl.out; omega)
       have hix0 : decide (0 ≤ (x : Int) + 1) = true := decide_eq_true (by omega)
       have hxn : ((x : Int) + 1).toNat = x + 1 := by omega
       have hix2 : x < Lib.countB s ⟨#[32]⟩ := by have := HCl.out; omega
       have hix3 : 0 ≤ (x : Int) + 1 := by omega
       have HWSZ := zM (show wx.size ≤ 281474976710656 by have := HS.out; omega)
       clear hwx hw1 hwsz
       have hb0 : Below w.heap.size w W1 := by rw [← hW1, ← hW0]; exact z2 (z2 (Below.refl _ _) _) _
       have HG := zM (HGs.out wr (hb0.trans (HBr.out.mono (by omega)))).2
       go_wp2_with (first
        | (go_at_call 31; have hca := impl_parseStmt.atoi_calls wx HWSZ.out wr HG.out.1 HG.out.2; (with_reducible refine hca.mono ?_); clear hca; rintro e w9 ⟨⟨xe, rfl⟩, hb⟩; have HBK9 := zM (z7 HBKr.out hb); have HB9 := zM (zQ HBr.out hb); have HO9 := zM (ze HOr.out hb); have hcs : w9.cell? ⟨gs, o, none⟩ = some (.int .i64 (c.getD o 0)) := (z5 HBK9.out o).trans (impl_parseStmt.cellsI_at c o (by have := HCL.out; omega)); have hfs := z6 HBK9.out o; clear hb))
       go_roundg k1
       case measure => omega
       case rel => exact ⟨x + 1, _, rfl, ⟨by have := HX.out; omega⟩, ⟨by rw [List.length_set]; exact HCL.out⟩, HF, ⟨impl_parseStmt.blk_store HBK9.out _⟩, ⟨zS HB9.out GE.out⟩, ⟨impl_parseStmt.R_store HO9.out HBK9.out _⟩⟩
      have hd : decide ((x : Int) < (OF.length : Int)) = false := decide_eq_false (by omega)
      have HF2 := HF.out
      rw [List.drop_eq_nil_of_le (by omega)] at HF2
      have hcf : c = impl_parseStmt.fill (impl_parseStmt.wsOf s) OF 0 [KK, 0, 0, 0, 0, 0] := HF2
      clear HF HF2
      obtain ⟨q0, q1, q2, q3, q4, q5, hq⟩ : ∃ q0 q1 q2 q3 q4 q5, c = [q0, q1, q2, q3, q4, q5] := by
       have h6 := HCL.out
       match c, h6 with
       | [a, b, d, e, f, g], _ => exact ⟨a, b, d, e, f, g, rfl⟩
      have HQ := zM (hq.symm.trans hcf)
      have HBKq := zM (show wr.heap[gs]? = some (.cells #[.int .i64 q0, .int .i64 q1, .int .i64 q2, .int .i64 q3, .int .i64 q4, .int .i64 q5] 35 (0, 0)) from by have z := HBKr.out; rw [hq] at z; exact z)
      clear hcf hq
      have hk0 : wr.cell? ⟨gs, 0, none⟩ = some (.int .i64 q0) := (z5 HBKq.out 0).trans rfl
      have hk1 : wr.cell? ⟨gs, 1, none⟩ = some (.int .i64 q1) := (z5 HBKq.out 1).trans rfl
      have hk2 : wr.cell? ⟨gs, 2, none⟩ = some (.int .i64 q2) := (z5 HBKq.out 2).trans rfl
      have hk3 : wr.cell? ⟨gs, 3, none⟩ = some (.int .i64 q3) := (z5 HBKq.out 3).trans rfl
      have hk4 : wr.cell? ⟨gs, 4, none⟩ = some (.int .i64 q4) := (z5 HBKq.out 4).trans rfl
      have hk5 : wr.cell? ⟨gs, 5, none⟩ = some (.int .i64 q5) := (z5 HBKq.out 5).trans rfl
      have hb0 : Below w.heap.size w W1 := by rw [← hW1, ← hW0]; exact z2 (z2 (Below.refl _ _) _) _
      have HBw := zM (hb0.trans (HBr.out.mono (by omega)))
      have HGr := zM (HGs.out wr HBw.out)
      have HRr := zM ((HBr.out.block w.heap.size (by omega)).trans hrb)
      have hH := HH.out
      rw [if_pos HCl.out, ← HQ.out] at hH
      have hH2 := Option.bind_eq_some_iff.mp hH
      obtain ⟨own, A0, hH3⟩ := hH2
      have HA := zM A0
      clear hH A0 HH
      by_cases e1 : own.toList = []
      ·rw [if_pos e1] at hH3
       simp only [Option.some.injEq, Prod.mk.injEq] at hH3
       obtain ⟨rfl, rfl, rfl, rfl, rfl, rfl, rfl⟩ := hH3
       have e1b : (own.toList == []) = true := beq_iff_eq.mpr e1
       clear e1
       go_wp2_with (first | (go_at_call 39; (with_reducible refine (impl_FormatStmt.calls k q0 q1 q2 q3 q4 q5 own _ HA.out HGr.out.1).mono ?_); rintro e w9 ⟨rfl, hb⟩; have HK9 := zM (z7 HBKq.out hb); have HR9 := zM (z7 HRr.out hb); have HB9 := zM (zQ HBw.out hb); have hr0 : w9.cell? ⟨w.heap.size, 0, none⟩ = some (.int .i64 0) := (z5 HR9.out 0).trans rfl; have hr1 : w9.cell? ⟨w.heap.size, 1, none⟩ = some (.int .i64 0) := (z5 HR9.out 1).trans rfl; have hr2 : w9.cell? ⟨w.heap.size, 2, none⟩ = some (.int .i64 0) := (z5 HR9.out 2).trans rfl; have hr3 : w9.cell? ⟨w.heap.size, 3, none⟩ = some (.int .i64 0) := (z5 HR9.out 3).trans rfl; have hr4 : w9.cell? ⟨w.heap.size, 4, none⟩ = some (.int .i64 0) := (z5 HR9.out 4).trans rfl; have hr5 : w9.cell? ⟨w.heap.size, 5, none⟩ = some (.int .i64 0) := (z5 HR9.out 5).trans rfl; have hrf0 := z6 HR9.out 0; have hrf1 := z6 HR9.out 1; have hrf2 := z6 HR9.out 2; have hrf3 := z6 HR9.out 3; have hrf4 := z6 HR9.out 4; have hrf5 := z6 HR9.out 5; have hj0 : w9.cell? ⟨gs, 0, none⟩ = some (.int .i64 q0) := (z5 HK9.out 0).trans rfl; have hj1 : w9.cell? ⟨gs, 1, none⟩ = some (.int .i64 q1) := (z5 HK9.out 1).trans rfl; have hj2 : w9.cell? ⟨gs, 2, none⟩ = some (.int .i64 q2) := (z5 HK9.out 2).trans rfl; have hj3 : w9.cell? ⟨gs, 3, none⟩ = some (.int .i64 q3) := (z5 HK9.out 3).trans rfl; have hj4 : w9.cell? ⟨gs, 4, none⟩ = some (.int .i64 q4) := (z5 HK9.out 4).trans rfl; have hj5 : w9.cell? ⟨gs, 5, none⟩ = some (.int .i64 q5) := (z5 HK9.out 5).trans rfl; clear hb))
       refine bodyPost_ret (results_ct rfl _ _ w.heap.size 35 #[.int .i64 0, .int .i64 0, .int .i64 0, .int .i64 0, .int .i64 0, .int .i64 0] (0, 0) _ rfl (by (with_reducible repeat (first | refine zN ?_ _ | refine zO ?_ | refine zP ?_ _)); refine blk_put (cs := #[.int .i64 0, .int .i64 0, .int .i64 0, .int .i64 0, .int .i64 0, .int .i64 0]) ?_ 5 _ rfl; (with_reducible repeat (first | refine zN ?_ _ | refine zO ?_ | refine zP ?_ _)); refine blk_put (cs := #[.int .i64 0, .int .i64 0, .int .i64 0, .int .i64 0, .int .i64 0, .int .i64 0]) ?_ 4 _ rfl; (with_reducible repeat (first | refine zN ?_ _ | refine zO ?_ | refine zP ?_ _)); refine blk_put (cs := #[.int .i64 0, .int .i64 0, .int .i64 0, .int .i64 0, .int .i64 0, .int .i64 0]) ?_ 3 _ rfl; (with_reducible repeat (first | refine zN ?_ _ | refine zO ?_ | refine zP ?_ _)); refine blk_put (cs := #[.int .i64 0, .int .i64 0, .int .i64 0, .int .i64 0, .int .i64 0, .int .i64 0]) ?_ 2 _ rfl; (with_reducible repeat (first | refine zN ?_ _ | refine zO ?_ | refine zP ?_ _)); refine blk_put (cs := #[.int .i64 0, .int .i64 0, .int .i64 0, .int .i64 0, .int .i64 0, .int .i64 0]) ?_ 1 _ rfl; (with_reducible repeat (first | refine zN ?_ _ | refine zO ?_ | refine zP ?_ _)); refine blk_put (cs := #[.int .i64 0, .int .i64 0, .int .i64 0, .int .i64 0, .int .i64 0, .int .i64 0]) ?_ 0 _ rfl; (with_reducible repeat (first | refine zN ?_ _ | refine zO ?_ | refine zP ?_ _)); exact HR9.out) Tryz.underlying35 rfl (by kernel_rfl)) rfl ?_
       exact ⟨rfl, by repeat (first | (with_reducible first | exact HB9.out | apply z2 | apply z3 | apply z4 | refine zS ?_ (Nat.le_refl _)) | exact HB9.out)⟩
      rw [if_neg e1] at hH3
      have e1b : (own.toList == []) = false := beq_eq_false_iff_ne.mpr e1
      clear e1
      by_cases e2 : own.toList = s.toList
      ·rw [if_pos e2] at hH3
       simp only [Option.some.injEq, Prod.mk.injEq] at hH3
       obtain ⟨rfl, rfl, rfl, rfl, rfl, rfl, rfl⟩ := hH3
       have e2b : (own.toList == s.toList) = true := beq_iff_eq.mpr e2
       have e2c : (own.toList != s.toList) = false := by rw [bne, e2b]; rfl
       clear e2
       go_wp2_with (first | (go_at_call 39; (with_reducible refine (impl_FormatStmt.calls k q0 q1 q2 q3 q4 q5 own _ HA.out HGr.out.1).mono ?_); rintro e w9 ⟨rfl, hb⟩; have HK9 := zM (z7 HBKq.out hb); have HR9 := zM (z7 HRr.out hb); have HB9 := zM (zQ HBw.out hb); have hr0 : w9.cell? ⟨w.heap.size, 0, none⟩ = some (.int .i64 0) := (z5 HR9.out 0).trans rfl; have hr1 : w9.cell? ⟨w.heap.size, 1, none⟩ = some (.int .i64 0) := (z5 HR9.out 1).trans rfl; have hr2 : w9.cell? ⟨w.heap.size, 2, none⟩ = some (.int .i64 0) := (z5 HR9.out 2).trans rfl; have hr3 : w9.cell? ⟨w.heap.size, 3, none⟩ = some (.int .i64 0) := (z5 HR9.out 3).trans rfl; have hr4 : w9.cell? ⟨w.heap.size, 4, none⟩ = some (.int .i64 0) := (z5 HR9.out 4).trans rfl; have hr5 : w9.cell? ⟨w.heap.size, 5, none⟩ = some (.int .i64 0) := (z5 HR9.out 5).trans rfl; have hrf0 := z6 HR9.out 0; have hrf1 := z6 HR9.out 1; have hrf2 := z6 HR9.out 2; have hrf3 := z6 HR9.out 3; have hrf4 := z6 HR9.out 4; have hrf5 := z6 HR9.out 5; have hj0 : w9.cell? ⟨gs, 0, none⟩ = some (.int .i64 q0) := (z5 HK9.out 0).trans rfl; have hj1 : w9.cell? ⟨gs, 1, none⟩ = some (.int .i64 q1) := (z5 HK9.out 1).trans rfl; have hj2 : w9.cell? ⟨gs, 2, none⟩ = some (.int .i64 q2) := (z5 HK9.out 2).trans rfl; have hj3 : w9.cell? ⟨gs, 3, none⟩ = some (.int .i64 q3) := (z5 HK9.out 3).trans rfl; have hj4 : w9.cell? ⟨gs, 4, none⟩ = some (.int .i64 q4) := (z5 HK9.out 4).trans rfl; have hj5 : w9.cell? ⟨gs, 5, none⟩ = some (.int .i64 q5) := (z5 HK9.out 5).trans rfl; clear hb))
       refine bodyPost_ret (results_ct rfl _ _ w.heap.size 35 #[.int .i64 q0, .int .i64 q1, .int .i64 q2, .int .i64 q3, .int .i64 q4, .int .i64 q5] (0, 0) _ rfl (by (with_reducible repeat (first | refine zN ?_ _ | refine zO ?_ | refine zP ?_ _)); refine blk_put (cs := #[.int .i64 q0, .int .i64 q1, .int .i64 q2, .int .i64 q3, .int .i64 q4, .int .i64 0]) ?_ 5 _ rfl; (with_reducible repeat (first | refine zN ?_ _ | refine zO ?_ | refine zP ?_ _)); refine blk_put (cs := #[.int .i64 q0, .int .i64 q1, .int .i64 q2, .int .i64 q3, .int .i64 0, .int .i64 0]) ?_ 4 _ rfl; (with_reducible repeat (first | refine zN ?_ _ | refine zO ?_ | refine zP ?_ _)); refine blk_put (cs := #[.int .i64 q0, .int .i64 q1, .int .i64 q2, .int .i64 0, .int .i64 0, .int .i64 0]) ?_ 3 _ rfl; (with_reducible repeat (first | refine zN ?_ _ | refine zO ?_ | refine zP ?_ _)); refine blk_put (cs := #[.int .i64 q0, .int .i64 q1, .int .i64 0, .int .i64 0, .int .i64 0, .int .i64 0]) ?_ 2 _ rfl; (with_reducible repeat (first | refine zN ?_ _ | refine zO ?_ | refine zP ?_ _)); refine blk_put (cs := #[.int .i64 q0, .int .i64 0, .int .i64 0, .int .i64 0, .int .i64 0, .int .i64 0]) ?_ 1 _ rfl; (with_reducible repeat (first | refine zN ?_ _ | refine zO ?_ | refine zP ?_ _)); refine blk_put (cs := #[.int .i64 0, .int .i64 0, .int .i64 0, .int .i64 0, .int .i64 0, .int .i64 0]) ?_ 0 _ rfl; (with_reducible repeat (first | refine zN ?_ _ | refine zO ?_ | refine zP ?_ _)); exact HR9.out) Tryz.underlying35 rfl (by kernel_rfl)) rfl ?_
       exact ⟨rfl, by repeat (first | (with_reducible first | exact HB9.out | apply z2 | apply z3 | apply z4 | refine zS ?_ (Nat.le_refl _)) | exact HB9.out)⟩
      rw [if_neg e2] at hH3
      simp only [Option.some.injEq, Prod.mk.injEq] at hH3
      obtain ⟨rfl, rfl, rfl, rfl, rfl, rfl, rfl⟩ := hH3
      have e2b : (own.toList == s.toList) = false := beq_eq_false_iff_ne.mpr e2
      have e2c : (own.toList != s.toList) = true := by rw [bne, e2b]; rfl
      clear e2
      go_wp2_with (first | (go_at_call 39; (with_reducible refine (impl_FormatStmt.calls k q0 q1 q2 q3 q4 q5 own _ HA.out HGr.out.1).mono ?_); rintro e w9 ⟨rfl, hb⟩; have HK9 := zM (z7 HBKq.out hb); have HR9 := zM (z7 HRr.out hb); have HB9 := zM (zQ HBw.out hb); have hr0 : w9.cell? ⟨w.heap.size, 0, none⟩ = some (.int .i64 0) := (z5 HR9.out 0).trans rfl; have hr1 : w9.cell? ⟨w.heap.size, 1, none⟩ = some (.int .i64 0) := (z5 HR9.out 1).trans rfl; have hr2 : w9.cell? ⟨w.heap.size, 2, none⟩ = some (.int .i64 0) := (z5 HR9.out 2).trans rfl; have hr3 : w9.cell? ⟨w.heap.size, 3, none⟩ = some (.int .i64 0) := (z5 HR9.out 3).trans rfl; have hr4 : w9.cell? ⟨w.heap.size, 4, none⟩ = some (.int .i64 0) := (z5 HR9.out 4).trans rfl; have hr5 : w9.cell? ⟨w.heap.size, 5, none⟩ = some (.int .i64 0) := (z5 HR9.out 5).trans rfl; have hrf0 := z6 HR9.out 0; have hrf1 := z6 HR9.out 1; have hrf2 := z6 HR9.out 2; have hrf3 := z6 HR9.out 3; have hrf4 := z6 HR9.out 4; have hrf5 := z6 HR9.out 5; have hj0 : w9.cell? ⟨gs, 0, none⟩ = some (.int .i64 q0) := (z5 HK9.out 0).trans rfl; have hj1 : w9.cell? ⟨gs, 1, none⟩ = some (.int .i64 q1) := (z5 HK9.out 1).trans rfl; have hj2 : w9.cell? ⟨gs, 2, none⟩ = some (.int .i64 q2) := (z5 HK9.out 2).trans rfl; have hj3 : w9.cell? ⟨gs, 3, none⟩ = some (.int .i64 q3) := (z5 HK9.out 3).trans rfl; have hj4 : w9.cell? ⟨gs, 4, none⟩ = some (.int .i64 q4) := (z5 HK9.out 4).trans rfl; have hj5 : w9.cell? ⟨gs, 5, none⟩ = some (.int .i64 q5) := (z5 HK9.out 5).trans rfl; clear hb))
      refine bodyPost_ret (results_ct rfl _ _ w.heap.size 35 #[.int .i64 0, .int .i64 0, .int .i64 0, .int .i64 0, .int .i64 0, .int .i64 0] (0, 0) _ rfl (by (with_reducible repeat (first | refine zN ?_ _ | refine zO ?_ | refine zP ?_ _)); refine blk_put (cs := #[.int .i64 0, .int .i64 0, .int .i64 0, .int .i64 0, .int .i64 0, .int .i64 0]) ?_ 5 _ rfl; (with_reducible repeat (first | refine zN ?_ _ | refine zO ?_ | refine zP ?_ _)); refine blk_put (cs := #[.int .i64 0, .int .i64 0, .int .i64 0, .int .i64 0, .int .i64 0, .int .i64 0]) ?_ 4 _ rfl; (with_reducible repeat (first | refine zN ?_ _ | refine zO ?_ | refine zP ?_ _)); refine blk_put (cs := #[.int .i64 0, .int .i64 0, .int .i64 0, .int .i64 0, .int .i64 0, .int .i64 0]) ?_ 3 _ rfl; (with_reducible repeat (first | refine zN ?_ _ | refine zO ?_ | refine zP ?_ _)); refine blk_put (cs := #[.int .i64 0, .int .i64 0, .int .i64 0, .int .i64 0, .int .i64 0, .int .i64 0]) ?_ 2 _ rfl; (with_reducible repeat (first | refine zN ?_ _ | refine zO ?_ | refine zP ?_ _)); refine blk_put (cs := #[.int .i64 0, .int .i64 0, .int .i64 0, .int .i64 0, .int .i64 0, .int .i64 0]) ?_ 1 _ rfl; (with_reducible repeat (first | refine zN ?_ _ | refine zO ?_ | refine zP ?_ _)); refine blk_put (cs := #[.int .i64 0, .int .i64 0, .int .i64 0, .int .i64 0, .int .i64 0, .int .i64 0]) ?_ 0 _ rfl; (with_reducible repeat (first | refine zN ?_ _ | refine zO ?_ | refine zP ?_ _)); exact HR9.out) Tryz.underlying35 rfl (by kernel_rfl)) rfl ?_
      exact ⟨rfl, by repeat (first | (with_reducible first | exact HB9.out | apply z2 | apply z3 | apply z4 | refine zS ?_ (Nat.le_refl _)) | exact HB9.out)⟩
    have hn1 : ((Lib.countB s ⟨#[32]⟩ : Int) + 1 == (OF.length : Int) + 1) = false := by simp; omega
    have hH := HH.out
    rw [if_neg cl] at hH
    simp only [Option.some.injEq, Prod.mk.injEq] at hH
    obtain ⟨rfl, rfl, rfl, rfl, rfl, rfl, rfl⟩ := hH
    have hb0 : Below w.heap.size w W1 := by rw [← hW1, ← hW0]; exact z2 (z2 (Below.refl _ _) _) _
    have HB9 := zM (hb0.trans (HB1.out.mono (by omega)))
    have HR9 := zM ((HB1.out.block w.heap.size (by omega)).trans hrb)
    have hr0 : wc.cell? ⟨w.heap.size, 0, none⟩ = some (.int .i64 0) := (z5 HR9.out 0).trans rfl
    have hrf0 := z6 HR9.out 0
    have hr1 : wc.cell? ⟨w.heap.size, 1, none⟩ = some (.int .i64 0) := (z5 HR9.out 1).trans rfl
    have hrf1 := z6 HR9.out 1
    have hr2 : wc.cell? ⟨w.heap.size, 2, none⟩ = some (.int .i64 0) := (z5 HR9.out 2).trans rfl
    have hrf2 := z6 HR9.out 2
    have hr3 : wc.cell? ⟨w.heap.size, 3, none⟩ = some (.int .i64 0) := (z5 HR9.out 3).trans rfl
    have hrf3 := z6 HR9.out 3
    have hr4 : wc.cell? ⟨w.heap.size, 4, none⟩ = some (.int .i64 0) := (z5 HR9.out 4).trans rfl
    have hrf4 := z6 HR9.out 4
    have hr5 : wc.cell? ⟨w.heap.size, 5, none⟩ = some (.int .i64 0) := (z5 HR9.out 5).trans rfl
    have hrf5 := z6 HR9.out 5
    clear HH cl
    go_wp2
    refine bodyPost_ret (results_ct rfl _ _ w.heap.size 35 #[.int .i64 0, .int .i64 0, .int .i64 0, .int .i64 0, .int .i64 0, .int .i64 0] (0, 0) _ rfl (by (with_reducible repeat (first | refine zN ?_ _ | refine zO ?_ | refine zP ?_ _)); refine blk_put (cs := #[.int .i64 0, .int .i64 0, .int .i64 0, .int .i64 0, .int .i64 0, .int .i64 0]) ?_ 5 _ rfl; (with_reducible repeat (first | refine zN ?_ _ | refine zO ?_ | refine zP ?_ _)); refine blk_put (cs := #[.int .i64 0, .int .i64 0, .int .i64 0, .int .i64 0, .int .i64 0, .int .i64 0]) ?_ 4 _ rfl; (with_reducible repeat (first | refine zN ?_ _ | refine zO ?_ | refine zP ?_ _)); refine blk_put (cs := #[.int .i64 0, .int .i64 0, .int .i64 0, .int .i64 0, .int .i64 0, .int .i64 0]) ?_ 3 _ rfl; (with_reducible repeat (first | refine zN ?_ _ | refine zO ?_ | refine zP ?_ _)); refine blk_put (cs := #[.int .i64 0, .int .i64 0, .int .i64 0, .int .i64 0, .int .i64 0, .int .i64 0]) ?_ 2 _ rfl; (with_reducible repeat (first | refine zN ?_ _ | refine zO ?_ | refine zP ?_ _)); refine blk_put (cs := #[.int .i64 0, .int .i64 0, .int .i64 0, .int .i64 0, .int .i64 0, .int .i64 0]) ?_ 1 _ rfl; (with_reducible repeat (first | refine zN ?_ _ | refine zO ?_ | refine zP ?_ _)); refine blk_put (cs := #[.int .i64 0, .int .i64 0, .int .i64 0, .int .i64 0, .int .i64 0, .int .i64 0]) ?_ 0 _ rfl; (with_reducible repeat (first | refine zN ?_ _ | refine zO ?_ | refine zP ?_ _)); exact HR9.out) Tryz.underlying35 rfl (by kernel_rfl)) rfl ?_
    exact ⟨rfl, by repeat (first | (with_reducible first | exact HB9.out | apply z2 | apply z3 | apply z4 | refine zS ?_ (Nat.le_refl _)) | exact HB9.out)⟩
def impl_taskLine.f (k : Nat) (a0_0 : Int) (a0_1 : Int) (a0_2 : Int) : Option (ByteArray) := (impl_spaced.f k (⟨#[116, 97, 115, 107]⟩ : ByteArray) (([a0_0, a0_1, a0_2] : List Int))).bind fun t322 => (some t322)
theorem impl_taskLine.mono : ∀ a0 a1 a2 k, LeO (impl_taskLine.f k a0 a1 a2) (impl_taskLine.f (k + 1) a0 a1 a2) := by
 intro a0 a1 a2 k
 unfold impl_taskLine.f
 repeat' first | (with_reducible first | exact impl_spaced.mono _ _ _ | exact LeO.refl _ | exact LeO.none _ | refine LeO.ite ?_ ?_ | refine LeO.bind ?_ (fun _ => ?_)) | exact impl_spaced.mono _ _ _ | exact LeO.none _ | refine LeO.ite ?_ ?_ | refine LeO.bind ?_ (fun _ => ?_)
theorem impl_taskLine.calls (k : Nat) (a0_0 : Int) (a0_1 : Int) (a0_2 : Int) (r : ByteArray) (w : World) (h : impl_taskLine.f k a0_0 a0_1 a0_2 = some r) (hGL : GL w := by first | exact HGL.out | exact GL.below HGL.out (by repeat (first | (with_reducible first | exact HB.out | apply z2 | apply z3 | apply z4 | refine zS ?_ (Aside0.out (by assumption))) | exact HB.out))) :
  Calls Tryz.prog 33 #[.agg #[.int .i64 a0_0, .int .i64 a0_1, .int .i64 a0_2]] w fun e w' => e = .returned (.string r) ∧ Below w.heap.size w w' := by
 have HGL := zM hGL
 clear hGL
 have hu31 := Tryz.underlying31
 have HB := zM (Below.refl w.heap.size w)
 have H : ((impl_spaced.f k (⟨#[116, 97, 115, 107]⟩ : ByteArray) (([a0_0, a0_1, a0_2] : List Int))).bind fun t322 => (some t322)) = some r := h
 clear h
 obtain ⟨y319, hyq⟩ : ∃ y_ : List Int, y_ = (([a0_0, a0_1, a0_2] : List Int)) := ⟨_, rfl⟩
 replace H : ((impl_spaced.f k (⟨#[116, 97, 115, 107]⟩ : ByteArray) y319).bind fun t322 => (some t322)) = some r := zh
 have Ny319 := zM hyq
 clear hyq
 replace H := Option.bind_eq_some_iff.mp H
 obtain ⟨t322, A20, H⟩ := H
 replace H : (some t322) = some r := H
 have A2 := zM A20
 clear A20
 obtain rfl := Option.some.inj H
 go_enter Tryz.func33, Tryz.ntmps33
 go_wp2_with (first | ((with_reducible refine gate_dst (N := 1) rfl ?_); refine box_event ?hg (N := 1) ?hd (cs := #[.int .i64 a0_0, .int .i64 a0_1, .int .i64 a0_2]) (t := 31) ?hr ?_; (case hd => rfl); (case hg => rfl); (case hr => first | (go_simp; done) | (go_simp; rfl)); intro gb318 hg w3 hbox hb; have n0_ := zM (zQ zb hb); have n1_ := zM (hbox); have n2_ := zM ((by rw [hg]; exact (zR zb) : w.heap.size ≤ gb318)); have n3_ := zM ((by rw [hg]; exact (zR zb) : w.heap.size ≤ gb318)); clear HB; have HB := n0_; have BK318 := n1_; have GW318 := n2_; have GE318 := n3_; clear n0_ n1_ n2_ n3_; clear hb hbox hg; have hcz4_0 := (z5 BK318.out 0).trans rfl; have hcz4_1 := (z5 BK318.out 1).trans rfl; have hcz4_2 := (z5 BK318.out 2).trans rfl; have hfz4_0 := z6 BK318.out 0; have hfz4_1 := z6 BK318.out 1; have hfz4_2 := z6 BK318.out 2) | ((with_reducible refine gate_dst (N := 9) rfl ?_); refine Kd.R_lit (Kd.int .i64) _ 3 ?hg (N := 9) ?hd (xs := ([a0_0, a0_1, a0_2] : List Int)) (inner := [.int .i64 a0_0, .int .i64 a0_1, .int .i64 a0_2]) (ok := fun _ => True) (okp := fun _ => True) ?hr ?hp (fun _ hk => hk) trivial (Below.refl _ _) (Nat.le_refl _) (by simp) ?_; (case hd => rfl); (case hg => rfl); (case hr => first | (go_simp; done) | (go_simp; rfl)); (case hp => exact (Reps.one (show Kd.M (Kd.int .i64) _ _ _ a0_0 [.int .i64 a0_0] from rfl) (Reps.one (show Kd.M (Kd.int .i64) _ _ _ a0_1 [.int .i64 a0_1] from rfl) (Reps.one (show Kd.M (Kd.int .i64) _ _ _ a0_2 [.int .i64 a0_2] from rfl) (Reps.none _ _))))); intro v320 w5 ho6 hb hg_ hnew_; clear hg_ hnew_; (first | rw [← Ny319.out] at ho6 | (simp only [Int.reduceToNat] at ho6; rw [← Ny319.out] at ho6)); have n0_ := zM (zf ho6 (zR zb)); have n1_ := zM (z7 (g := gb318) (o := .cells #[.int .i64 a0_0, .int .i64 a0_1, .int .i64 a0_2] 31 (0, 0)) zk hb); have n2_ := zM (zQ zb hb); clear BK318; clear HB; have HO321 := n0_; have BK318 := n1_; have HB := n2_; clear n0_ n1_ n2_; clear hb ho6; obtain ⟨Ao7, co7, eo7⟩ := Kd.R_slice HO321.out; subst eo7) | ((with_reducible refine gate_callee (f := 53) rfl ?_); refine goesL_ (some 10) rfl rfl Tryz.func53 (by kernel_rfl) rfl #[.string (⟨#[116, 97, 115, 107]⟩ : ByteArray), .slice Ao7 y319.length co7] rfl zg ?_; (with_reducible refine (impl_spaced.calls k (⟨#[116, 97, 115, 107]⟩ : ByteArray) _ _ y319 t322 _ ?side1 ?side2 A2.out).mono ?_); (case side1 => repeat (first | exact (z9 HO321.out).2.2 | (with_reducible refine zF ?_ _) | (with_reducible refine zG ?_ _) | (with_reducible refine zH ?_))); (case side2 => exact (z9 HO321.out).2.1); rintro e w8 ⟨rfl, hb⟩; refine ⟨_, rfl, ?_⟩; have n0_ := zM (ze (by (with_reducible repeat (first | apply zI | apply zJ | apply zK)); exact HO321.out) hb); have n1_ := zM (z7 (g := gb318) (o := .cells #[.int .i64 a0_0, .int .i64 a0_1, .int .i64 a0_2] 31 (0, 0)) zk hb); have n2_ := zM (zQ zb hb); clear HO321; clear BK318; clear HB; have HO321 := n0_; have BK318 := n1_; have HB := n2_; clear n0_ n1_ n2_; (try clear hb); (try clear hk)))
 go_ret
 exact ⟨by first | rfl | (simp [errW_none, errW_some] <;> rfl) | (simp [*, errW_none, errW_some] <;> rfl), zb⟩
end Go.Proofs.YtcpmkcidehhbiaaGreatDoor.PFnExactParseProgram
