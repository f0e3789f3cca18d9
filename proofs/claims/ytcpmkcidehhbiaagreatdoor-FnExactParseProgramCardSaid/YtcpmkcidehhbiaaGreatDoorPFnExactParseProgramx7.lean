/- Walks of the functions that a statement reaches, written by a program (the printing program, mended): no condition. -/
import Derived.Test.YtcpmkcidehhbiaaGreatDoorPFnExactParseProgramx0
import Derived.Test.YtcpmkcidehhbiaaGreatDoorPFnExactParseProgramx4
import Derived.Test.YtcpmkcidehhbiaaGreatDoorPFnExactParseProgramx6
namespace Go.Proofs.YtcpmkcidehhbiaaGreatDoor.PFnExactParseProgram
open Go.RowKit Go.Proofs.YtcpmkcidehhbiaaGreatDoorW.PrintWords Go.Proofs.YtcpmkcidehhbiaaGreatDoorW.PrintLast Go.Proofs.YtcpmkcidehhbiaaGreatDoorW.PrintMore
attribute [local go_sem] max2_int min2_int max_two min_two max_three min_three max_four min_four
set_option linter.unusedVariables false
set_option maxRecDepth 100000
set_option maxHeartbeats 8000000
set_option linter.unusedSimpArgs false
def spec_FormatStmt.f (k : Nat) (a0_0 : Int) (a0_1 : Int) (a0_2 : Int) (a0_3 : Int) (a0_4 : Int) (a0_5 : Int) : Option (ByteArray) := (spec_StmtOk.f k a0_0 a0_1 a0_2 a0_3 a0_4 a0_5).bind fun t160 => (if t160 = true then (if a0_0 = 1 then ((spec_FormatInt.f k a0_1).bind fun t161 => (if 4 + t161.size ≤ 9223372036854775807 then ((spec_l04Expr.f k a0_3 a0_4 a0_5).bind fun t162 => (if ((⟨#[115, 101, 116, 32]⟩ : ByteArray) ++ t161).size + t162.size ≤ 9223372036854775807 then (some (((⟨#[115, 101, 116, 32]⟩ : ByteArray) ++ t161) ++ t162)) else (none))) else (none))) else (if a0_0 = 2 then ((spec_FormatInt.f k a0_1).bind fun t163 => (if 6 + t163.size ≤ 9223372036854775807 then (if ((⟨#[115, 101, 110, 115, 101, 32]⟩ : ByteArray) ++ t163).size + 1 ≤ 9223372036854775807 then ((spec_FormatInt.f k a0_2).bind fun t164 => (if (((⟨#[115, 101, 110, 115, 101, 32]⟩ : ByteArray) ++ t163) ++ (⟨#[32]⟩ : ByteArray)).size + t164.size ≤ 9223372036854775807 then (some ((((⟨#[115, 101, 110, 115, 101, 32]⟩ : ByteArray) ++ t163) ++ (⟨#[32]⟩ : ByteArray)) ++ t164)) else (none))) else (none)) else (none))) else (if a0_0 = 3 then ((spec_l04Expr.f k a0_3 a0_4 a0_5).bind fun t165 => (if 4 + t165.size ≤ 9223372036854775807 then (some ((⟨#[115, 101, 110, 100]⟩ : ByteArray) ++ t165)) else (none))) else (if a0_0 = 4 then ((spec_l04Expr.f k a0_3 a0_4 a0_5).bind fun t166 => (if 2 + t166.size ≤ 9223372036854775807 then (some ((⟨#[105, 102]⟩ : ByteArray) ++ t166)) else (none))) else (if a0_0 = 5 then ((spec_FormatInt.f k a0_2).bind fun t167 => (if 5 + t167.size ≤ 9223372036854775807 then (some ((⟨#[108, 111, 111, 112, 32]⟩ : ByteArray) ++ t167)) else (none))) else (some (⟨#[101, 110, 100]⟩ : ByteArray))))))) else (some (⟨#[]⟩ : ByteArray)))
theorem spec_FormatStmt.mono : ∀ a0 a1 a2 a3 a4 a5 k, LeO (spec_FormatStmt.f k a0 a1 a2 a3 a4 a5) (spec_FormatStmt.f (k + 1) a0 a1 a2 a3 a4 a5) := by
 intro a0 a1 a2 a3 a4 a5 k
 unfold spec_FormatStmt.f
 repeat' first | (with_reducible first | exact spec_FormatInt.mono _ _ | exact spec_StmtOk.mono _ _ _ _ _ _ _ | exact spec_l04Expr.mono _ _ _ _ | exact LeO.refl _ | exact LeO.none _ | refine LeO.ite ?_ ?_ | refine LeO.bind ?_ (fun _ => ?_)) | exact spec_FormatInt.mono _ _ | exact spec_StmtOk.mono _ _ _ _ _ _ _ | exact spec_l04Expr.mono _ _ _ _ | exact LeO.none _ | refine LeO.ite ?_ ?_ | refine LeO.bind ?_ (fun _ => ?_)
def spec_FormatStmt.T5 : Bool × List (List Nat × List Nat) := (true, [([], []), ([0], [0]), ([1], [1]), ([2], [2]), ([], []), ([4], [4]), ([5, 2], [5]), ([3, 6], [3, 6]), ([7, 6, 0, 1, 2, 3, 4, 5, 6, 7], [7])])
def spec_FormatStmt.B5 : List Nat := [0, 1, 3, 7, 0, 16, 55, 127, 255]
theorem spec_FormatStmt.tab5 : rtab .any (opsOf Tryz.f11 5) = spec_FormatStmt.T5 := by kernel_rfl
theorem spec_FormatStmt.bits5 : waitsOk spec_FormatStmt.T5.2 spec_FormatStmt.B5 = true := by kernel_rfl
def spec_FormatStmt.T7 : Bool × List (List Nat × List Nat) := (true, [([], []), ([0], [0]), ([1], [1]), ([2], [2]), ([3], [3]), ([], []), ([5], [5]), ([6, 2], [6]), ([4, 7], [4, 7]), ([8, 7, 0, 1, 2, 3, 4, 5, 6, 7, 8], [8])])
def spec_FormatStmt.B7 : List Nat := [0, 1, 3, 7, 15, 0, 32, 103, 255, 511]
theorem spec_FormatStmt.tab7 : rtab .any (opsOf Tryz.f11 7) = spec_FormatStmt.T7 := by kernel_rfl
theorem spec_FormatStmt.bits7 : waitsOk spec_FormatStmt.T7.2 spec_FormatStmt.B7 = true := by kernel_rfl
theorem spec_FormatStmt.calls (k : Nat) (a0_0 : Int) (a0_1 : Int) (a0_2 : Int) (a0_3 : Int) (a0_4 : Int) (a0_5 : Int) (r : ByteArray) (w : World) (h : spec_FormatStmt.f k a0_0 a0_1 a0_2 a0_3 a0_4 a0_5 = some r) :
  Calls Tryz.prog 11 #[.agg #[.int .i64 a0_0, .int .i64 a0_1, .int .i64 a0_2, .int .i64 a0_3, .int .i64 a0_4, .int .i64 a0_5]] w fun e w' => e = .returned (.string r) ∧ Below w.heap.size w w' := by
 have hu35 := Tryz.underlying35
 have hu31 := Tryz.underlying31
 have HB := zM (Below.refl w.heap.size w)
 have H : ((spec_StmtOk.f k a0_0 a0_1 a0_2 a0_3 a0_4 a0_5).bind fun t160 => (if t160 = true then (if a0_0 = 1 then ((spec_FormatInt.f k a0_1).bind fun t161 => (if 4 + t161.size ≤ 9223372036854775807 then ((spec_l04Expr.f k a0_3 a0_4 a0_5).bind fun t162 => (if ((⟨#[115, 101, 116, 32]⟩ : ByteArray) ++ t161).size + t162.size ≤ 9223372036854775807 then (some (((⟨#[115, 101, 116, 32]⟩ : ByteArray) ++ t161) ++ t162)) else (none))) else (none))) else (if a0_0 = 2 then ((spec_FormatInt.f k a0_1).bind fun t163 => (if 6 + t163.size ≤ 9223372036854775807 then (if ((⟨#[115, 101, 110, 115, 101, 32]⟩ : ByteArray) ++ t163).size + 1 ≤ 9223372036854775807 then ((spec_FormatInt.f k a0_2).bind fun t164 => (if (((⟨#[115, 101, 110, 115, 101, 32]⟩ : ByteArray) ++ t163) ++ (⟨#[32]⟩ : ByteArray)).size + t164.size ≤ 9223372036854775807 then (some ((((⟨#[115, 101, 110, 115, 101, 32]⟩ : ByteArray) ++ t163) ++ (⟨#[32]⟩ : ByteArray)) ++ t164)) else (none))) else (none)) else (none))) else (if a0_0 = 3 then ((spec_l04Expr.f k a0_3 a0_4 a0_5).bind fun t165 => (if 4 + t165.size ≤ 9223372036854775807 then (some ((⟨#[115, 101, 110, 100]⟩ : ByteArray) ++ t165)) else (none))) else (if a0_0 = 4 then ((spec_l04Expr.f k a0_3 a0_4 a0_5).bind fun t166 => (if 2 + t166.size ≤ 9223372036854775807 then (some ((⟨#[105, 102]⟩ : ByteArray) ++ t166)) else (none))) else (if a0_0 = 5 then ((spec_FormatInt.f k a0_2).bind fun t167 => (if 5 + t167.size ≤ 9223372036854775807 then (some ((⟨#[108, 111, 111, 112, 32]⟩ : ByteArray) ++ t167)) else (none))) else (some (⟨#[101, 110, 100]⟩ : ByteArray))))))) else (some (⟨#[]⟩ : ByteArray)))) = some r := h
 clear h
 replace H := Option.bind_eq_some_iff.mp H
 obtain ⟨t160, A20, H⟩ := H
 replace H : (if t160 = true then (if a0_0 = 1 then ((spec_FormatInt.f k a0_1).bind fun t161 => (if 4 + t161.size ≤ 9223372036854775807 then ((spec_l04Expr.f k a0_3 a0_4 a0_5).bind fun t162 => (if ((⟨#[115, 101, 116, 32]⟩ : ByteArray) ++ t161).size + t162.size ≤ 9223372036854775807 then (some (((⟨#[115, 101, 116, 32]⟩ : ByteArray) ++ t161) ++ t162)) else (none))) else (none))) else (if a0_0 = 2 then ((spec_FormatInt.f k a0_1).bind fun t163 => (if 6 + t163.size ≤ 9223372036854775807 then (if ((⟨#[115, 101, 110, 115, 101, 32]⟩ : ByteArray) ++ t163).size + 1 ≤ 9223372036854775807 then ((spec_FormatInt.f k a0_2).bind fun t164 => (if (((⟨#[115, 101, 110, 115, 101, 32]⟩ : ByteArray) ++ t163) ++ (⟨#[32]⟩ : ByteArray)).size + t164.size ≤ 9223372036854775807 then (some ((((⟨#[115, 101, 110, 115, 101, 32]⟩ : ByteArray) ++ t163) ++ (⟨#[32]⟩ : ByteArray)) ++ t164)) else (none))) else (none)) else (none))) else (if a0_0 = 3 then ((spec_l04Expr.f k a0_3 a0_4 a0_5).bind fun t165 => (if 4 + t165.size ≤ 9223372036854775807 then (some ((⟨#[115, 101, 110, 100]⟩ : ByteArray) ++ t165)) else (none))) else (if a0_0 = 4 then ((spec_l04Expr.f k a0_3 a0_4 a0_5).bind fun t166 => (if 2 + t166.size ≤ 9223372036854775807 then (some ((⟨#[105, 102]⟩ : ByteArray) ++ t166)) else (none))) else (if a0_0 = 5 then ((spec_FormatInt.f k a0_2).bind fun t167 => (if 5 + t167.size ≤ 9223372036854775807 then (some ((⟨#[108, 111, 111, 112, 32]⟩ : ByteArray) ++ t167)) else (none))) else (some (⟨#[101, 110, 100]⟩ : ByteArray))))))) else (some (⟨#[]⟩ : ByteArray))) = some r := H
 have A2 := zM A20
 clear A20
 by_cases c3 : t160 = true
 ·subst c3
  have H1 : (if a0_0 = 1 then ((spec_FormatInt.f k a0_1).bind fun t161 => (if 4 + t161.size ≤ 9223372036854775807 then ((spec_l04Expr.f k a0_3 a0_4 a0_5).bind fun t162 => (if ((⟨#[115, 101, 116, 32]⟩ : ByteArray) ++ t161).size + t162.size ≤ 9223372036854775807 then (some (((⟨#[115, 101, 116, 32]⟩ : ByteArray) ++ t161) ++ t162)) else (none))) else (none))) else (if a0_0 = 2 then ((spec_FormatInt.f k a0_1).bind fun t163 => (if 6 + t163.size ≤ 9223372036854775807 then (if ((⟨#[115, 101, 110, 115, 101, 32]⟩ : ByteArray) ++ t163).size + 1 ≤ 9223372036854775807 then ((spec_FormatInt.f k a0_2).bind fun t164 => (if (((⟨#[115, 101, 110, 115, 101, 32]⟩ : ByteArray) ++ t163) ++ (⟨#[32]⟩ : ByteArray)).size + t164.size ≤ 9223372036854775807 then (some ((((⟨#[115, 101, 110, 115, 101, 32]⟩ : ByteArray) ++ t163) ++ (⟨#[32]⟩ : ByteArray)) ++ t164)) else (none))) else (none)) else (none))) else (if a0_0 = 3 then ((spec_l04Expr.f k a0_3 a0_4 a0_5).bind fun t165 => (if 4 + t165.size ≤ 9223372036854775807 then (some ((⟨#[115, 101, 110, 100]⟩ : ByteArray) ++ t165)) else (none))) else (if a0_0 = 4 then ((spec_l04Expr.f k a0_3 a0_4 a0_5).bind fun t166 => (if 2 + t166.size ≤ 9223372036854775807 then (some ((⟨#[105, 102]⟩ : ByteArray) ++ t166)) else (none))) else (if a0_0 = 5 then ((spec_FormatInt.f k a0_2).bind fun t167 => (if 5 + t167.size ≤ 9223372036854775807 then (some ((⟨#[108, 111, 111, 112, 32]⟩ : ByteArray) ++ t167)) else (none))) else (some (⟨#[101, 110, 100]⟩ : ByteArray))))))) = some r := by rw [if_pos rfl] at H; exact H
  clear H
  have H := H1
  clear H1
  by_cases c4 : a0_0 = 1
  ·rw [if_pos c4] at H
   have c4b0 : (a0_0 == 1) = true := beq_iff_eq.mpr c4
   have c4b1 : (a0_0 != 1) = false := bne_eq_false_iff_eq.mpr c4
   clear c4
   replace H := Option.bind_eq_some_iff.mp H
   obtain ⟨t161, A50, H⟩ := H
   replace H : (if 4 + t161.size ≤ 9223372036854775807 then ((spec_l04Expr.f k a0_3 a0_4 a0_5).bind fun t162 => (if ((⟨#[115, 101, 116, 32]⟩ : ByteArray) ++ t161).size + t162.size ≤ 9223372036854775807 then (some (((⟨#[115, 101, 116, 32]⟩ : ByteArray) ++ t161) ++ t162)) else (none))) else (none)) = some r := H
   have A5 := zM A50
   clear A50
   by_cases c6 : 4 + t161.size ≤ 9223372036854775807
   ·rw [if_pos c6] at H
    have c6b0 := eq_true c6
    have c6b1 : decide (4 + t161.size ≤ 9223372036854775807) = true := decide_eq_true c6
    try have c6b2 : (9223372036854775807 < 4 + t161.size) = False := eq_false (Nat.not_lt.2 c6)
    replace H := Option.bind_eq_some_iff.mp H
    obtain ⟨t162, A70, H⟩ := H
    replace H : (if ((⟨#[115, 101, 116, 32]⟩ : ByteArray) ++ t161).size + t162.size ≤ 9223372036854775807 then (some (((⟨#[115, 101, 116, 32]⟩ : ByteArray) ++ t161) ++ t162)) else (none)) = some r := H
    have A7 := zM A70
    clear A70
    by_cases c8 : ((⟨#[115, 101, 116, 32]⟩ : ByteArray) ++ t161).size + t162.size ≤ 9223372036854775807
    ·rw [if_pos c8] at H
     have c8b0 := eq_true c8
     have c8b1 : decide (((⟨#[115, 101, 116, 32]⟩ : ByteArray) ++ t161).size + t162.size ≤ 9223372036854775807) = true := decide_eq_true c8
     try have c8b2 : (9223372036854775807 < ((⟨#[115, 101, 116, 32]⟩ : ByteArray) ++ t161).size + t162.size) = False := eq_false (Nat.not_lt.2 c8)
     try have c8b3 : (9223372036854775807 < 4 + t161.size + t162.size) = False := by have z := c8b2; simp only [ByteArray.size_append] at z; exact z
     obtain rfl := Option.some.inj H
     go_enter Tryz.func11, Tryz.ntmps11
     try go_wp2_with (first | ((with_reducible refine gate_dst (N := 1) rfl ?_); refine box_event ?hg (N := 1) ?hd (cs := #[.int .i64 a0_0, .int .i64 a0_1, .int .i64 a0_2, .int .i64 a0_3, .int .i64 a0_4, .int .i64 a0_5]) (t := 35) ?hr ?_; (case hd => rfl); (case hg => rfl); (case hr => first | (go_simp; done) | (go_simp; rfl)); intro gb159 hg w9 hbox hb; have n0_ := zM (zQ zb hb); have n1_ := zM (hbox); have n2_ := zM ((by rw [hg]; exact (zR zb) : w.heap.size ≤ gb159)); have n3_ := zM ((by rw [hg]; exact (zR zb) : w.heap.size ≤ gb159)); clear HB; have HB := n0_; have BK159 := n1_; have GW159 := n2_; have GE159 := n3_; clear n0_ n1_ n2_ n3_; clear hb hbox hg; have hcz10_0 := (z5 BK159.out 0).trans rfl; have hcz10_1 := (z5 BK159.out 1).trans rfl; have hcz10_2 := (z5 BK159.out 2).trans rfl; have hcz10_3 := (z5 BK159.out 3).trans rfl; have hcz10_4 := (z5 BK159.out 4).trans rfl; have hcz10_5 := (z5 BK159.out 5).trans rfl; have hfz10_0 := z6 BK159.out 0; have hfz10_1 := z6 BK159.out 1; have hfz10_2 := z6 BK159.out 2; have hfz10_3 := z6 BK159.out 3; have hfz10_4 := z6 BK159.out 4; have hfz10_5 := z6 BK159.out 5) | ((with_reducible refine gate_callee (f := 27) rfl ?_); refine goesL_ (some 4) rfl rfl Tryz.func27 (by kernel_rfl) rfl #[.agg #[.int .i64 a0_0, .int .i64 a0_1, .int .i64 a0_2, .int .i64 a0_3, .int .i64 a0_4, .int .i64 a0_5]] rfl zg ?_; (with_reducible refine (spec_StmtOk.calls k a0_0 a0_1 a0_2 a0_3 a0_4 a0_5 true _ A2.out).mono ?_); rintro e w11 ⟨rfl, hb⟩; refine ⟨_, rfl, ?_⟩; have n0_ := zM (z7 (g := gb159) (o := .cells #[.int .i64 a0_0, .int .i64 a0_1, .int .i64 a0_2, .int .i64 a0_3, .int .i64 a0_4, .int .i64 a0_5] 35 (0, 0)) zk hb); have n1_ := zM (zQ zb hb); clear BK159; clear HB; have BK159 := n0_; have HB := n1_; clear n0_ n1_; (try clear hb); have hcz12_0 := (z5 BK159.out 0).trans rfl; have hcz12_1 := (z5 BK159.out 1).trans rfl; have hcz12_2 := (z5 BK159.out 2).trans rfl; have hcz12_3 := (z5 BK159.out 3).trans rfl; have hcz12_4 := (z5 BK159.out 4).trans rfl; have hcz12_5 := (z5 BK159.out 5).trans rfl; have hfz12_0 := z6 BK159.out 0; have hfz12_1 := z6 BK159.out 1; have hfz12_2 := z6 BK159.out 2; have hfz12_3 := z6 BK159.out 3; have hfz12_4 := z6 BK159.out 4; have hfz12_5 := z6 BK159.out 5))
     have n0_ := zM (zO BK159.out)
     have n1_ := zM (z4 HB.out)
     clear BK159
     clear HB
     have BK159 := n0_
     have HB := n1_
     clear n0_ n1_
     refine start_ (n := 9) (S := fun w' => w'.cell? ⟨gb159, 0, none⟩ = some (.int .i64 a0_0) ∧ w'.cell? ⟨gb159, 1, none⟩ = some (.int .i64 a0_1) ∧ w'.cell? ⟨gb159, 2, none⟩ = some (.int .i64 a0_2) ∧ w'.cell? ⟨gb159, 3, none⟩ = some (.int .i64 a0_3) ∧ w'.cell? ⟨gb159, 4, none⟩ = some (.int .i64 a0_4) ∧ w'.cell? ⟨gb159, 5, none⟩ = some (.int .i64 a0_5)) (ds := []) #[false, false, false, false, false, false, false, false, false] (by kernel_rfl) rfl rfl ⟨(z5 BK159.out 0).trans rfl, (z5 BK159.out 1).trans rfl, (z5 BK159.out 2).trans rfl, (z5 BK159.out 3).trans rfl, (z5 BK159.out 4).trans rfl, (z5 BK159.out 5).trans rfl⟩ (fun hHeld => ?_); refine with_tabW spec_FormatStmt.tab5 spec_FormatStmt.bits5 (fun HT_ HW_ => ?_)
     generalize w11.drew = w13 at BK159 HB hHeld ⊢
     refine pure_ (i := 0) (N := some 10) (v := ?_) (a' := ?_) #[true, false, false, false, false, false, false, false, false] rfl rfl (any_of HT_.out (by kernel_rfl)) (fun _ _ _ h => h) (Or.inl ⟨by rfl, ?_⟩) ?_ ?_
     rotate_left
     ·intro w'
      go_simp
      with_reducible rfl
     rotate_left
     ·exact zu
     refine pure_ (i := 4) (N := some 14) (v := ?_) (a' := ?_) #[true, false, false, false, true, false, false, false, false] rfl rfl (any_of HT_.out (by kernel_rfl)) (fun _ _ _ h => h) (Or.inl ⟨by rfl, ?_⟩) ?_ ?_
     rotate_left
     ·intro w'
      go_simp
      with_reducible rfl
     rotate_left
     ·exact zu
     refine take_ (i := 1) (N := some 11) (v := ?_) (a' := ?_) #[true, true, false, false, true, false, false, false, false] rfl rfl (take_ofW HT_.out HW_.out (by kernel_rfl)) (fun _ _ _ h => h) (Or.inl ⟨by rfl, ?_⟩) hHeld ?_ ?_
     rotate_left
     ·rintro w' ⟨s0, s1, s2, s3, s4, s5⟩
      go_simp
      with_reducible rfl
     rotate_left
     ·exact zu
     refine take_ (i := 5) (N := some 15) (v := ?_) (a' := ?_) #[true, true, false, false, true, true, false, false, false] rfl rfl (take_ofW HT_.out HW_.out (by kernel_rfl)) (fun _ _ _ h => h) (Or.inl ⟨by rfl, ?_⟩) hHeld ?_ ?_
     rotate_left
     ·rintro w' ⟨s0, s1, s2, s3, s4, s5⟩
      go_simp
      with_reducible rfl
     rotate_left
     ·exact zu
     refine one_ (i := 2) (N := some 12) #[true, true, true, false, true, true, false, false, false] rfl rfl (one_of HT_.out (by kernel_rfl)) (by decide) (fun K hK => ?_)
     refine goes_ Tryz.func28 (by kernel_rfl) rfl #[.int .i64 a0_1] (by rfl) rfl rfl zg ?_
     with_reducible refine (spec_FormatInt.calls k a0_1 t161 _ A5.out).mono ?_
     rintro e w14 ⟨rfl, hb⟩
     refine ⟨_, rfl, ?_⟩
     have n0_ := zM (z7 (g := gb159) (o := .cells #[.int .i64 a0_0, .int .i64 a0_1, .int .i64 a0_2, .int .i64 a0_3, .int .i64 a0_4, .int .i64 a0_5] 35 (0, 0)) zk hb)
     have n1_ := zM (zQ zb hb)
     clear BK159
     clear HB
     have BK159 := n0_
     have HB := n1_
     clear n0_ n1_
     (try clear hb)
     (try clear hb2)
     (try clear hk)
     (try clear hi)
     refine hK.out _ _ ⟨(z5 BK159.out 0).trans rfl, (z5 BK159.out 1).trans rfl, (z5 BK159.out 2).trans rfl, (z5 BK159.out 3).trans rfl, (z5 BK159.out 4).trans rfl, (z5 BK159.out 5).trans rfl⟩ (fun hHeld => ?_)
     clear hK K
     refine norm_ (a' := ?_) ?_ ?_
     rotate_left
     ·show Act.put _ (some 12) _ = _
      exact zu
     refine pure_ (i := 3) (N := some 13) (v := ?_) (a' := ?_) #[true, true, true, true, true, true, false, false, false] rfl rfl (any_of HT_.out (by kernel_rfl)) (fun _ _ _ h => h) (Or.inl ⟨by rfl, ?_⟩) ?_ ?_
     rotate_left
     ·intro w'
      go_simp
      with_reducible rfl
     rotate_left
     ·exact zu
     refine one_ (i := 6) (N := some 16) #[true, true, true, true, true, true, true, false, false] rfl rfl (one_of HT_.out (by kernel_rfl)) (by decide) (fun K hK => ?_)
     refine goes_ Tryz.func24 (by kernel_rfl) rfl #[.agg #[.int .i64 a0_3, .int .i64 a0_4, .int .i64 a0_5]] (by rfl) rfl rfl zg ?_
     with_reducible refine (spec_l04Expr.calls k a0_3 a0_4 a0_5 t162 _ A7.out).mono ?_
     rintro e w15 ⟨rfl, hb⟩
     refine ⟨_, rfl, ?_⟩
     have n0_ := zM (z7 (g := gb159) (o := .cells #[.int .i64 a0_0, .int .i64 a0_1, .int .i64 a0_2, .int .i64 a0_3, .int .i64 a0_4, .int .i64 a0_5] 35 (0, 0)) zk hb)
     have n1_ := zM (zQ zb hb)
     clear BK159
     clear HB
     have BK159 := n0_
     have HB := n1_
     clear n0_ n1_
     (try clear hb)
     (try clear hb2)
     (try clear hk)
     (try clear hi)
     refine hK.out _ _ ⟨(z5 BK159.out 0).trans rfl, (z5 BK159.out 1).trans rfl, (z5 BK159.out 2).trans rfl, (z5 BK159.out 3).trans rfl, (z5 BK159.out 4).trans rfl, (z5 BK159.out 5).trans rfl⟩ (fun hHeld => ?_)
     clear hK K
     refine norm_ (a' := ?_) ?_ ?_
     rotate_left
     ·show Act.put _ (some 16) _ = _
      exact zu
     refine pure_ (i := 7) (N := some 17) (v := ?_) (a' := ?_) #[true, true, true, true, true, true, true, true, false] rfl rfl (any_of HT_.out (by kernel_rfl)) (fun _ _ _ h => h) (Or.inl ⟨by rfl, ?_⟩) ?_ ?_
     rotate_left
     ·intro w'
      go_simp
      with_reducible rfl
     rotate_left
     ·exact zu
     refine pure_ (i := 8) (N := some 2) (v := ?_) (a' := ?_) #[true, true, true, true, true, true, true, true, true] rfl rfl (any_of HT_.out (by kernel_rfl)) (fun _ _ _ h => h) (Or.inl ⟨by rfl, ?_⟩) ?_ ?_
     rotate_left
     ·intro w'
      go_simp
      with_reducible rfl
     rotate_left
     ·exact zu
     refine done_ (done_of HT_.out (by kernel_rfl)) ?_
     try go_wp2
     go_ret
     exact ⟨by first | rfl | (simp [errW_none, errW_some] <;> rfl) | (simp [*, errW_none, errW_some] <;> rfl), zb⟩
    rw [if_neg c8] at H
    exact absurd H (by simp)
   rw [if_neg c6] at H
   exact absurd H (by simp)
  rw [if_neg c4] at H
  have c4b0 : (a0_0 == 1) = false := beq_eq_false_iff_ne.mpr c4
  have c4b1 : (a0_0 != 1) = true := bne_iff_ne.mpr c4
  by_cases c16 : a0_0 = 2
  ·rw [if_pos c16] at H
   have c16b0 : (a0_0 == 2) = true := beq_iff_eq.mpr c16
   have c16b1 : (a0_0 != 2) = false := bne_eq_false_iff_eq.mpr c16
   clear c16
   replace H := Option.bind_eq_some_iff.mp H
   obtain ⟨t163, A170, H⟩ := H
   replace H : (if 6 + t163.size ≤ 9223372036854775807 then (if ((⟨#[115, 101, 110, 115, 101, 32]⟩ : ByteArray) ++ t163).size + 1 ≤ 9223372036854775807 then ((spec_FormatInt.f k a0_2).bind fun t164 => (if (((⟨#[115, 101, 110, 115, 101, 32]⟩ : ByteArray) ++ t163) ++ (⟨#[32]⟩ : ByteArray)).size + t164.size ≤ 9223372036854775807 then (some ((((⟨#[115, 101, 110, 115, 101, 32]⟩ : ByteArray) ++ t163) ++ (⟨#[32]⟩ : ByteArray)) ++ t164)) else (none))) else (none)) else (none)) = some r := H
   have A17 := zM A170
   clear A170
   by_cases c18 : 6 + t163.size ≤ 9223372036854775807
   ·rw [if_pos c18] at H
    have c18b0 := eq_true c18
    have c18b1 : decide (6 + t163.size ≤ 9223372036854775807) = true := decide_eq_true c18
    try have c18b2 : (9223372036854775807 < 6 + t163.size) = False := eq_false (Nat.not_lt.2 c18)
    by_cases c19 : ((⟨#[115, 101, 110, 115, 101, 32]⟩ : ByteArray) ++ t163).size + 1 ≤ 9223372036854775807
    ·rw [if_pos c19] at H
     have c19b0 := eq_true c19
     have c19b1 : decide (((⟨#[115, 101, 110, 115, 101, 32]⟩ : ByteArray) ++ t163).size + 1 ≤ 9223372036854775807) = true := decide_eq_true c19
     try have c19b2 : (9223372036854775807 < ((⟨#[115, 101, 110, 115, 101, 32]⟩ : ByteArray) ++ t163).size + 1) = False := eq_false (Nat.not_lt.2 c19)
     try have c19b3 : (9223372036854775807 < 6 + t163.size + 1) = False := by have z := c19b2; simp only [ByteArray.size_append] at z; exact z
     replace H := Option.bind_eq_some_iff.mp H
     obtain ⟨t164, A200, H⟩ := H
     replace H : (if (((⟨#[115, 101, 110, 115, 101, 32]⟩ : ByteArray) ++ t163) ++ (⟨#[32]⟩ : ByteArray)).size + t164.size ≤ 9223372036854775807 then (some ((((⟨#[115, 101, 110, 115, 101, 32]⟩ : ByteArray) ++ t163) ++ (⟨#[32]⟩ : ByteArray)) ++ t164)) else (none)) = some r := H
     have A20 := zM A200
     clear A200
     by_cases c21 : (((⟨#[115, 101, 110, 115, 101, 32]⟩ : ByteArray) ++ t163) ++ (⟨#[32]⟩ : ByteArray)).size + t164.size ≤ 9223372036854775807
     ·rw [if_pos c21] at H
      have c21b0 := eq_true c21
      have c21b1 : decide ((((⟨#[115, 101, 110, 115, 101, 32]⟩ : ByteArray) ++ t163) ++ (⟨#[32]⟩ : ByteArray)).size + t164.size ≤ 9223372036854775807) = true := decide_eq_true c21
      try have c21b2 : (9223372036854775807 < (((⟨#[115, 101, 110, 115, 101, 32]⟩ : ByteArray) ++ t163) ++ (⟨#[32]⟩ : ByteArray)).size + t164.size) = False := eq_false (Nat.not_lt.2 c21)
      try have c21b3 : (9223372036854775807 < 6 + t163.size + 1 + t164.size) = False := by have z := c21b2; simp only [ByteArray.size_append] at z; exact z
      obtain rfl := Option.some.inj H
      go_enter Tryz.func11, Tryz.ntmps11
      try go_wp2_with (first | ((with_reducible refine gate_dst (N := 1) rfl ?_); refine box_event ?hg (N := 1) ?hd (cs := #[.int .i64 a0_0, .int .i64 a0_1, .int .i64 a0_2, .int .i64 a0_3, .int .i64 a0_4, .int .i64 a0_5]) (t := 35) ?hr ?_; (case hd => rfl); (case hg => rfl); (case hr => first | (go_simp; done) | (go_simp; rfl)); intro gb159 hg w22 hbox hb; have n0_ := zM (zQ zb hb); have n1_ := zM (hbox); have n2_ := zM ((by rw [hg]; exact (zR zb) : w.heap.size ≤ gb159)); have n3_ := zM ((by rw [hg]; exact (zR zb) : w.heap.size ≤ gb159)); clear HB; have HB := n0_; have BK159 := n1_; have GW159 := n2_; have GE159 := n3_; clear n0_ n1_ n2_ n3_; clear hb hbox hg; have hcz23_0 := (z5 BK159.out 0).trans rfl; have hcz23_1 := (z5 BK159.out 1).trans rfl; have hcz23_2 := (z5 BK159.out 2).trans rfl; have hcz23_3 := (z5 BK159.out 3).trans rfl; have hcz23_4 := (z5 BK159.out 4).trans rfl; have hcz23_5 := (z5 BK159.out 5).trans rfl; have hfz23_0 := z6 BK159.out 0; have hfz23_1 := z6 BK159.out 1; have hfz23_2 := z6 BK159.out 2; have hfz23_3 := z6 BK159.out 3; have hfz23_4 := z6 BK159.out 4; have hfz23_5 := z6 BK159.out 5) | ((with_reducible refine gate_callee (f := 27) rfl ?_); refine goesL_ (some 4) rfl rfl Tryz.func27 (by kernel_rfl) rfl #[.agg #[.int .i64 a0_0, .int .i64 a0_1, .int .i64 a0_2, .int .i64 a0_3, .int .i64 a0_4, .int .i64 a0_5]] rfl zg ?_; (with_reducible refine (spec_StmtOk.calls k a0_0 a0_1 a0_2 a0_3 a0_4 a0_5 true _ A2.out).mono ?_); rintro e w24 ⟨rfl, hb⟩; refine ⟨_, rfl, ?_⟩; have n0_ := zM (z7 (g := gb159) (o := .cells #[.int .i64 a0_0, .int .i64 a0_1, .int .i64 a0_2, .int .i64 a0_3, .int .i64 a0_4, .int .i64 a0_5] 35 (0, 0)) zk hb); have n1_ := zM (zQ zb hb); clear BK159; clear HB; have BK159 := n0_; have HB := n1_; clear n0_ n1_; (try clear hb); have hcz25_0 := (z5 BK159.out 0).trans rfl; have hcz25_1 := (z5 BK159.out 1).trans rfl; have hcz25_2 := (z5 BK159.out 2).trans rfl; have hcz25_3 := (z5 BK159.out 3).trans rfl; have hcz25_4 := (z5 BK159.out 4).trans rfl; have hcz25_5 := (z5 BK159.out 5).trans rfl; have hfz25_0 := z6 BK159.out 0; have hfz25_1 := z6 BK159.out 1; have hfz25_2 := z6 BK159.out 2; have hfz25_3 := z6 BK159.out 3; have hfz25_4 := z6 BK159.out 4; have hfz25_5 := z6 BK159.out 5))
      have n0_ := zM (zO BK159.out)
      have n1_ := zM (z4 HB.out)
      clear BK159
      clear HB
      have BK159 := n0_
      have HB := n1_
      clear n0_ n1_
      refine start_ (n := 10) (S := fun w' => w'.cell? ⟨gb159, 0, none⟩ = some (.int .i64 a0_0) ∧ w'.cell? ⟨gb159, 1, none⟩ = some (.int .i64 a0_1) ∧ w'.cell? ⟨gb159, 2, none⟩ = some (.int .i64 a0_2) ∧ w'.cell? ⟨gb159, 3, none⟩ = some (.int .i64 a0_3) ∧ w'.cell? ⟨gb159, 4, none⟩ = some (.int .i64 a0_4) ∧ w'.cell? ⟨gb159, 5, none⟩ = some (.int .i64 a0_5)) (ds := []) #[false, false, false, false, false, false, false, false, false, false] (by kernel_rfl) rfl rfl ⟨(z5 BK159.out 0).trans rfl, (z5 BK159.out 1).trans rfl, (z5 BK159.out 2).trans rfl, (z5 BK159.out 3).trans rfl, (z5 BK159.out 4).trans rfl, (z5 BK159.out 5).trans rfl⟩ (fun hHeld => ?_); refine with_tabW spec_FormatStmt.tab7 spec_FormatStmt.bits7 (fun HT_ HW_ => ?_)
      generalize w24.drew = w26 at BK159 HB hHeld ⊢
      refine pure_ (i := 0) (N := some 20) (v := ?_) (a' := ?_) #[true, false, false, false, false, false, false, false, false, false] rfl rfl (any_of HT_.out (by kernel_rfl)) (fun _ _ _ h => h) (Or.inl ⟨by rfl, ?_⟩) ?_ ?_
      rotate_left
      ·intro w'
       go_simp
       with_reducible rfl
      rotate_left
      ·exact zu
      refine pure_ (i := 5) (N := some 25) (v := ?_) (a' := ?_) #[true, false, false, false, false, true, false, false, false, false] rfl rfl (any_of HT_.out (by kernel_rfl)) (fun _ _ _ h => h) (Or.inl ⟨by rfl, ?_⟩) ?_ ?_
      rotate_left
      ·intro w'
       go_simp
       with_reducible rfl
      rotate_left
      ·exact zu
      refine take_ (i := 1) (N := some 21) (v := ?_) (a' := ?_) #[true, true, false, false, false, true, false, false, false, false] rfl rfl (take_ofW HT_.out HW_.out (by kernel_rfl)) (fun _ _ _ h => h) (Or.inl ⟨by rfl, ?_⟩) hHeld ?_ ?_
      rotate_left
      ·rintro w' ⟨s0, s1, s2, s3, s4, s5⟩
       go_simp
       with_reducible rfl
      rotate_left
      ·exact zu
      refine take_ (i := 6) (N := some 26) (v := ?_) (a' := ?_) #[true, true, false, false, false, true, true, false, false, false] rfl rfl (take_ofW HT_.out HW_.out (by kernel_rfl)) (fun _ _ _ h => h) (Or.inl ⟨by rfl, ?_⟩) hHeld ?_ ?_
      rotate_left
      ·rintro w' ⟨s0, s1, s2, s3, s4, s5⟩
       go_simp
       with_reducible rfl
      rotate_left
      ·exact zu
      refine one_ (i := 2) (N := some 22) #[true, true, true, false, false, true, true, false, false, false] rfl rfl (one_of HT_.out (by kernel_rfl)) (by decide) (fun K hK => ?_)
      refine goes_ Tryz.func28 (by kernel_rfl) rfl #[.int .i64 a0_1] (by rfl) rfl rfl zg ?_
      with_reducible refine (spec_FormatInt.calls k a0_1 t163 _ A17.out).mono ?_
      rintro e w27 ⟨rfl, hb⟩
      refine ⟨_, rfl, ?_⟩
      have n0_ := zM (z7 (g := gb159) (o := .cells #[.int .i64 a0_0, .int .i64 a0_1, .int .i64 a0_2, .int .i64 a0_3, .int .i64 a0_4, .int .i64 a0_5] 35 (0, 0)) zk hb)
      have n1_ := zM (zQ zb hb)
      clear BK159
      clear HB
      have BK159 := n0_
      have HB := n1_
      clear n0_ n1_
      (try clear hb)
      (try clear hb2)
      (try clear hk)
      (try clear hi)
      refine hK.out _ _ ⟨(z5 BK159.out 0).trans rfl, (z5 BK159.out 1).trans rfl, (z5 BK159.out 2).trans rfl, (z5 BK159.out 3).trans rfl, (z5 BK159.out 4).trans rfl, (z5 BK159.out 5).trans rfl⟩ (fun hHeld => ?_)
      clear hK K
      refine norm_ (a' := ?_) ?_ ?_
      rotate_left
      ·show Act.put _ (some 22) _ = _
       exact zu
      refine pure_ (i := 3) (N := some 23) (v := ?_) (a' := ?_) #[true, true, true, true, false, true, true, false, false, false] rfl rfl (any_of HT_.out (by kernel_rfl)) (fun _ _ _ h => h) (Or.inl ⟨by rfl, ?_⟩) ?_ ?_
      rotate_left
      ·intro w'
       go_simp
       with_reducible rfl
      rotate_left
      ·exact zu
      refine pure_ (i := 4) (N := some 24) (v := ?_) (a' := ?_) #[true, true, true, true, true, true, true, false, false, false] rfl rfl (any_of HT_.out (by kernel_rfl)) (fun _ _ _ h => h) (Or.inl ⟨by rfl, ?_⟩) ?_ ?_
      rotate_left
      ·intro w'
       go_simp
       with_reducible rfl
      rotate_left
      ·exact zu
      refine one_ (i := 7) (N := some 27) #[true, true, true, true, true, true, true, true, false, false] rfl rfl (one_of HT_.out (by kernel_rfl)) (by decide) (fun K hK => ?_)
      refine goes_ Tryz.func28 (by kernel_rfl) rfl #[.int .i64 a0_2] (by rfl) rfl rfl zg ?_
      with_reducible refine (spec_FormatInt.calls k a0_2 t164 _ A20.out).mono ?_
      rintro e w28 ⟨rfl, hb⟩
      refine ⟨_, rfl, ?_⟩
      have n0_ := zM (z7 (g := gb159) (o := .cells #[.int .i64 a0_0, .int .i64 a0_1, .int .i64 a0_2, .int .i64 a0_3, .int .i64 a0_4, .int .i64 a0_5] 35 (0, 0)) zk hb)
      have n1_ := zM (zQ zb hb)
      clear BK159
      clear HB
      have BK159 := n0_
      have HB := n1_
      clear n0_ n1_
      (try clear hb)
      (try clear hb2)
      (try clear hk)
      (try clear hi)
      refine hK.out _ _ ⟨(z5 BK159.out 0).trans rfl, (z5 BK159.out 1).trans rfl, (z5 BK159.out 2).trans rfl, (z5 BK159.out 3).trans rfl, (z5 BK159.out 4).trans rfl, (z5 BK159.out 5).trans rfl⟩ (fun hHeld => ?_)
      clear hK K
      refine norm_ (a' := ?_) ?_ ?_
      rotate_left
      ·show Act.put _ (some 27) _ = _
       exact zu
      refine pure_ (i := 8) (N := some 28) (v := ?_) (a' := ?_) #[true, true, true, true, true, true, true, true, true, false] rfl rfl (any_of HT_.out (by kernel_rfl)) (fun _ _ _ h => h) (Or.inl ⟨by rfl, ?_⟩) ?_ ?_
      rotate_left
      ·intro w'
       go_simp
       with_reducible rfl
      rotate_left
      ·exact zu
      refine pure_ (i := 9) (N := some 2) (v := ?_) (a' := ?_) #[true, true, true, true, true, true, true, true, true, true] rfl rfl (any_of HT_.out (by kernel_rfl)) (fun _ _ _ h => h) (Or.inl ⟨by rfl, ?_⟩) ?_ ?_
      rotate_left
      ·intro w'
       go_simp
       with_reducible rfl
      rotate_left
      ·exact zu
      refine done_ (done_of HT_.out (by kernel_rfl)) ?_
      try go_wp2
      go_ret
      exact ⟨by first | rfl | (simp [errW_none, errW_some] <;> rfl) | (simp [*, errW_none, errW_some] <;> rfl), zb⟩
     rw [if_neg c21] at H
     exact absurd H (by simp)
    rw [if_neg c19] at H
    exact absurd H (by simp)
   rw [if_neg c18] at H
   exact absurd H (by simp)
  rw [if_neg c16] at H
  have c16b0 : (a0_0 == 2) = false := beq_eq_false_iff_ne.mpr c16
  have c16b1 : (a0_0 != 2) = true := bne_iff_ne.mpr c16
  by_cases c29 : a0_0 = 3
  ·rw [if_pos c29] at H
   have c29b0 : (a0_0 == 3) = true := beq_iff_eq.mpr c29
   have c29b1 : (a0_0 != 3) = false := bne_eq_false_iff_eq.mpr c29
   clear c29
   replace H := Option.bind_eq_some_iff.mp H
   obtain ⟨t165, A300, H⟩ := H
   replace H : (if 4 + t165.size ≤ 9223372036854775807 then (some ((⟨#[115, 101, 110, 100]⟩ : ByteArray) ++ t165)) else (none)) = some r := H
   have A30 := zM A300
   clear A300
   by_cases c31 : 4 + t165.size ≤ 9223372036854775807
   ·rw [if_pos c31] at H
    have c31b0 := eq_true c31
    have c31b1 : decide (4 + t165.size ≤ 9223372036854775807) = true := decide_eq_true c31
    try have c31b2 : (9223372036854775807 < 4 + t165.size) = False := eq_false (Nat.not_lt.2 c31)
    obtain rfl := Option.some.inj H
    go_enter Tryz.func11, Tryz.ntmps11
    go_wp2_with (first | ((with_reducible refine gate_dst (N := 1) rfl ?_); refine box_event ?hg (N := 1) ?hd (cs := #[.int .i64 a0_0, .int .i64 a0_1, .int .i64 a0_2, .int .i64 a0_3, .int .i64 a0_4, .int .i64 a0_5]) (t := 35) ?hr ?_; (case hd => rfl); (case hg => rfl); (case hr => first | (go_simp; done) | (go_simp; rfl)); intro gb159 hg w32 hbox hb; have n0_ := zM (zQ zb hb); have n1_ := zM (hbox); have n2_ := zM ((by rw [hg]; exact (zR zb) : w.heap.size ≤ gb159)); have n3_ := zM ((by rw [hg]; exact (zR zb) : w.heap.size ≤ gb159)); clear HB; have HB := n0_; have BK159 := n1_; have GW159 := n2_; have GE159 := n3_; clear n0_ n1_ n2_ n3_; clear hb hbox hg; have hcz33_0 := (z5 BK159.out 0).trans rfl; have hcz33_1 := (z5 BK159.out 1).trans rfl; have hcz33_2 := (z5 BK159.out 2).trans rfl; have hcz33_3 := (z5 BK159.out 3).trans rfl; have hcz33_4 := (z5 BK159.out 4).trans rfl; have hcz33_5 := (z5 BK159.out 5).trans rfl; have hfz33_0 := z6 BK159.out 0; have hfz33_1 := z6 BK159.out 1; have hfz33_2 := z6 BK159.out 2; have hfz33_3 := z6 BK159.out 3; have hfz33_4 := z6 BK159.out 4; have hfz33_5 := z6 BK159.out 5) | ((with_reducible refine gate_callee (f := 27) rfl ?_); refine goesL_ (some 4) rfl rfl Tryz.func27 (by kernel_rfl) rfl #[.agg #[.int .i64 a0_0, .int .i64 a0_1, .int .i64 a0_2, .int .i64 a0_3, .int .i64 a0_4, .int .i64 a0_5]] rfl zg ?_; (with_reducible refine (spec_StmtOk.calls k a0_0 a0_1 a0_2 a0_3 a0_4 a0_5 true _ A2.out).mono ?_); rintro e w34 ⟨rfl, hb⟩; refine ⟨_, rfl, ?_⟩; have n0_ := zM (z7 (g := gb159) (o := .cells #[.int .i64 a0_0, .int .i64 a0_1, .int .i64 a0_2, .int .i64 a0_3, .int .i64 a0_4, .int .i64 a0_5] 35 (0, 0)) zk hb); have n1_ := zM (zQ zb hb); clear BK159; clear HB; have BK159 := n0_; have HB := n1_; clear n0_ n1_; (try clear hb); have hcz35_0 := (z5 BK159.out 0).trans rfl; have hcz35_1 := (z5 BK159.out 1).trans rfl; have hcz35_2 := (z5 BK159.out 2).trans rfl; have hcz35_3 := (z5 BK159.out 3).trans rfl; have hcz35_4 := (z5 BK159.out 4).trans rfl; have hcz35_5 := (z5 BK159.out 5).trans rfl; have hfz35_0 := z6 BK159.out 0; have hfz35_1 := z6 BK159.out 1; have hfz35_2 := z6 BK159.out 2; have hfz35_3 := z6 BK159.out 3; have hfz35_4 := z6 BK159.out 4; have hfz35_5 := z6 BK159.out 5) | ((with_reducible refine gate_callee (f := 24) rfl ?_); refine goesL_ (some 33) rfl rfl Tryz.func24 (by kernel_rfl) rfl #[.agg #[.int .i64 a0_3, .int .i64 a0_4, .int .i64 a0_5]] rfl zg ?_; (with_reducible refine (spec_l04Expr.calls k a0_3 a0_4 a0_5 t165 _ A30.out).mono ?_); rintro e w36 ⟨rfl, hb⟩; refine ⟨_, rfl, ?_⟩; have n0_ := zM (z7 (g := gb159) (o := .cells #[.int .i64 a0_0, .int .i64 a0_1, .int .i64 a0_2, .int .i64 a0_3, .int .i64 a0_4, .int .i64 a0_5] 35 (0, 0)) zk hb); have n1_ := zM (zQ zb hb); clear BK159; clear HB; have BK159 := n0_; have HB := n1_; clear n0_ n1_; (try clear hb)))
    go_ret
    exact ⟨by first | rfl | (simp [errW_none, errW_some] <;> rfl) | (simp [*, errW_none, errW_some] <;> rfl), zb⟩
   rw [if_neg c31] at H
   exact absurd H (by simp)
  rw [if_neg c29] at H
  have c29b0 : (a0_0 == 3) = false := beq_eq_false_iff_ne.mpr c29
  have c29b1 : (a0_0 != 3) = true := bne_iff_ne.mpr c29
  by_cases c37 : a0_0 = 4
  ·rw [if_pos c37] at H
   have c37b0 : (a0_0 == 4) = true := beq_iff_eq.mpr c37
   have c37b1 : (a0_0 != 4) = false := bne_eq_false_iff_eq.mpr c37
   clear c37
   replace H := Option.bind_eq_some_iff.mp H
   obtain ⟨t166, A380, H⟩ := H
   replace H : (if 2 + t166.size ≤ 9223372036854775807 then (some ((⟨#[105, 102]⟩ : ByteArray) ++ t166)) else (none)) = some r := H
   have A38 := zM A380
   clear A380
   by_cases c39 : 2 + t166.size ≤ 9223372036854775807
   ·rw [if_pos c39] at H
    have c39b0 := eq_true c39
    have c39b1 : decide (2 + t166.size ≤ 9223372036854775807) = true := decide_eq_true c39
    try have c39b2 : (9223372036854775807 < 2 + t166.size) = False := eq_false (Nat.not_lt.2 c39)
    obtain rfl := Option.some.inj H
    go_enter Tryz.func11, Tryz.ntmps11
    go_wp2_with (first | ((with_reducible refine gate_dst (N := 1) rfl ?_); refine box_event ?hg (N := 1) ?hd (cs := #[.int .i64 a0_0, .int .i64 a0_1, .int .i64 a0_2, .int .i64 a0_3, .int .i64 a0_4, .int .i64 a0_5]) (t := 35) ?hr ?_; (case hd => rfl); (case hg => rfl); (case hr => first | (go_simp; done) | (go_simp; rfl)); intro gb159 hg w40 hbox hb; have n0_ := zM (zQ zb hb); have n1_ := zM (hbox); have n2_ := zM ((by rw [hg]; exact (zR zb) : w.heap.size ≤ gb159)); have n3_ := zM ((by rw [hg]; exact (zR zb) : w.heap.size ≤ gb159)); clear HB; have HB := n0_; have BK159 := n1_; have GW159 := n2_; have GE159 := n3_; clear n0_ n1_ n2_ n3_; clear hb hbox hg; have hcz41_0 := (z5 BK159.out 0).trans rfl; have hcz41_1 := (z5 BK159.out 1).trans rfl; have hcz41_2 := (z5 BK159.out 2).trans rfl; have hcz41_3 := (z5 BK159.out 3).trans rfl; have hcz41_4 := (z5 BK159.out 4).trans rfl; have hcz41_5 := (z5 BK159.out 5).trans rfl; have hfz41_0 := z6 BK159.out 0; have hfz41_1 := z6 BK159.out 1; have hfz41_2 := z6 BK159.out 2; have hfz41_3 := z6 BK159.out 3; have hfz41_4 := z6 BK159.out 4; have hfz41_5 := z6 BK159.out 5) | ((with_reducible refine gate_callee (f := 27) rfl ?_); refine goesL_ (some 4) rfl rfl Tryz.func27 (by kernel_rfl) rfl #[.agg #[.int .i64 a0_0, .int .i64 a0_1, .int .i64 a0_2, .int .i64 a0_3, .int .i64 a0_4, .int .i64 a0_5]] rfl zg ?_; (with_reducible refine (spec_StmtOk.calls k a0_0 a0_1 a0_2 a0_3 a0_4 a0_5 true _ A2.out).mono ?_); rintro e w42 ⟨rfl, hb⟩; refine ⟨_, rfl, ?_⟩; have n0_ := zM (z7 (g := gb159) (o := .cells #[.int .i64 a0_0, .int .i64 a0_1, .int .i64 a0_2, .int .i64 a0_3, .int .i64 a0_4, .int .i64 a0_5] 35 (0, 0)) zk hb); have n1_ := zM (zQ zb hb); clear BK159; clear HB; have BK159 := n0_; have HB := n1_; clear n0_ n1_; (try clear hb); have hcz43_0 := (z5 BK159.out 0).trans rfl; have hcz43_1 := (z5 BK159.out 1).trans rfl; have hcz43_2 := (z5 BK159.out 2).trans rfl; have hcz43_3 := (z5 BK159.out 3).trans rfl; have hcz43_4 := (z5 BK159.out 4).trans rfl; have hcz43_5 := (z5 BK159.out 5).trans rfl; have hfz43_0 := z6 BK159.out 0; have hfz43_1 := z6 BK159.out 1; have hfz43_2 := z6 BK159.out 2; have hfz43_3 := z6 BK159.out 3; have hfz43_4 := z6 BK159.out 4; have hfz43_5 := z6 BK159.out 5) | ((with_reducible refine gate_callee (f := 24) rfl ?_); refine goesL_ (some 39) rfl rfl Tryz.func24 (by kernel_rfl) rfl #[.agg #[.int .i64 a0_3, .int .i64 a0_4, .int .i64 a0_5]] rfl zg ?_; (with_reducible refine (spec_l04Expr.calls k a0_3 a0_4 a0_5 t166 _ A38.out).mono ?_); rintro e w44 ⟨rfl, hb⟩; refine ⟨_, rfl, ?_⟩; have n0_ := zM (z7 (g := gb159) (o := .cells #[.int .i64 a0_0, .int .i64 a0_1, .int .i64 a0_2, .int .i64 a0_3, .int .i64 a0_4, .int .i64 a0_5] 35 (0, 0)) zk hb); have n1_ := zM (zQ zb hb); clear BK159; clear HB; have BK159 := n0_; have HB := n1_; clear n0_ n1_; (try clear hb)))
    go_ret
    exact ⟨by first | rfl | (simp [errW_none, errW_some] <;> rfl) | (simp [*, errW_none, errW_some] <;> rfl), zb⟩
   rw [if_neg c39] at H
   exact absurd H (by simp)
  rw [if_neg c37] at H
  have c37b0 : (a0_0 == 4) = false := beq_eq_false_iff_ne.mpr c37
  have c37b1 : (a0_0 != 4) = true := bne_iff_ne.mpr c37
  by_cases c45 : a0_0 = 5
  ·rw [if_pos c45] at H
   have c45b0 : (a0_0 == 5) = true := beq_iff_eq.mpr c45
   have c45b1 : (a0_0 != 5) = false := bne_eq_false_iff_eq.mpr c45
   clear c45
   replace H := Option.bind_eq_some_iff.mp H
   obtain ⟨t167, A460, H⟩ := H
   replace H : (if 5 + t167.size ≤ 9223372036854775807 then (some ((⟨#[108, 111, 111, 112, 32]⟩ : ByteArray) ++ t167)) else (none)) = some r := H
   have A46 := zM A460
   clear A460
   by_cases c47 : 5 + t167.size ≤ 9223372036854775807
   ·rw [if_pos c47] at H
    have c47b0 := eq_true c47
    have c47b1 : decide (5 + t167.size ≤ 9223372036854775807) = true := decide_eq_true c47
    try have c47b2 : (9223372036854775807 < 5 + t167.size) = False := eq_false (Nat.not_lt.2 c47)
    obtain rfl := Option.some.inj H
    go_enter Tryz.func11, Tryz.ntmps11
    go_wp2_with (first | ((with_reducible refine gate_dst (N := 1) rfl ?_); refine box_event ?hg (N := 1) ?hd (cs := #[.int .i64 a0_0, .int .i64 a0_1, .int .i64 a0_2, .int .i64 a0_3, .int .i64 a0_4, .int .i64 a0_5]) (t := 35) ?hr ?_; (case hd => rfl); (case hg => rfl); (case hr => first | (go_simp; done) | (go_simp; rfl)); intro gb159 hg w48 hbox hb; have n0_ := zM (zQ zb hb); have n1_ := zM (hbox); have n2_ := zM ((by rw [hg]; exact (zR zb) : w.heap.size ≤ gb159)); have n3_ := zM ((by rw [hg]; exact (zR zb) : w.heap.size ≤ gb159)); clear HB; have HB := n0_; have BK159 := n1_; have GW159 := n2_; have GE159 := n3_; clear n0_ n1_ n2_ n3_; clear hb hbox hg; have hcz49_0 := (z5 BK159.out 0).trans rfl; have hcz49_1 := (z5 BK159.out 1).trans rfl; have hcz49_2 := (z5 BK159.out 2).trans rfl; have hcz49_3 := (z5 BK159.out 3).trans rfl; have hcz49_4 := (z5 BK159.out 4).trans rfl; have hcz49_5 := (z5 BK159.out 5).trans rfl; have hfz49_0 := z6 BK159.out 0; have hfz49_1 := z6 BK159.out 1; have hfz49_2 := z6 BK159.out 2; have hfz49_3 := z6 BK159.out 3; have hfz49_4 := z6 BK159.out 4; have hfz49_5 := z6 BK159.out 5) | ((with_reducible refine gate_callee (f := 27) rfl ?_); refine goesL_ (some 4) rfl rfl Tryz.func27 (by kernel_rfl) rfl #[.agg #[.int .i64 a0_0, .int .i64 a0_1, .int .i64 a0_2, .int .i64 a0_3, .int .i64 a0_4, .int .i64 a0_5]] rfl zg ?_; (with_reducible refine (spec_StmtOk.calls k a0_0 a0_1 a0_2 a0_3 a0_4 a0_5 true _ A2.out).mono ?_); rintro e w50 ⟨rfl, hb⟩; refine ⟨_, rfl, ?_⟩; have n0_ := zM (z7 (g := gb159) (o := .cells #[.int .i64 a0_0, .int .i64 a0_1, .int .i64 a0_2, .int .i64 a0_3, .int .i64 a0_4, .int .i64 a0_5] 35 (0, 0)) zk hb); have n1_ := zM (zQ zb hb); clear BK159; clear HB; have BK159 := n0_; have HB := n1_; clear n0_ n1_; (try clear hb); have hcz51_0 := (z5 BK159.out 0).trans rfl; have hcz51_1 := (z5 BK159.out 1).trans rfl; have hcz51_2 := (z5 BK159.out 2).trans rfl; have hcz51_3 := (z5 BK159.out 3).trans rfl; have hcz51_4 := (z5 BK159.out 4).trans rfl; have hcz51_5 := (z5 BK159.out 5).trans rfl; have hfz51_0 := z6 BK159.out 0; have hfz51_1 := z6 BK159.out 1; have hfz51_2 := z6 BK159.out 2; have hfz51_3 := z6 BK159.out 3; have hfz51_4 := z6 BK159.out 4; have hfz51_5 := z6 BK159.out 5) | ((with_reducible refine gate_callee (f := 28) rfl ?_); refine goesL_ (some 45) rfl rfl Tryz.func28 (by kernel_rfl) rfl #[.int .i64 a0_2] rfl zg ?_; (with_reducible refine (spec_FormatInt.calls k a0_2 t167 _ A46.out).mono ?_); rintro e w52 ⟨rfl, hb⟩; refine ⟨_, rfl, ?_⟩; have n0_ := zM (z7 (g := gb159) (o := .cells #[.int .i64 a0_0, .int .i64 a0_1, .int .i64 a0_2, .int .i64 a0_3, .int .i64 a0_4, .int .i64 a0_5] 35 (0, 0)) zk hb); have n1_ := zM (zQ zb hb); clear BK159; clear HB; have BK159 := n0_; have HB := n1_; clear n0_ n1_; (try clear hb)))
    go_ret
    exact ⟨by first | rfl | (simp [errW_none, errW_some] <;> rfl) | (simp [*, errW_none, errW_some] <;> rfl), zb⟩
   rw [if_neg c47] at H
   exact absurd H (by simp)
  rw [if_neg c45] at H
  have c45b0 : (a0_0 == 5) = false := beq_eq_false_iff_ne.mpr c45
  have c45b1 : (a0_0 != 5) = true := bne_iff_ne.mpr c45
  obtain rfl := Option.some.inj H
  go_enter Tryz.func11, Tryz.ntmps11
  go_wp2_with (first | ((with_reducible refine gate_dst (N := 1) rfl ?_); refine box_event ?hg (N := 1) ?hd (cs := #[.int .i64 a0_0, .int .i64 a0_1, .int .i64 a0_2, .int .i64 a0_3, .int .i64 a0_4, .int .i64 a0_5]) (t := 35) ?hr ?_; (case hd => rfl); (case hg => rfl); (case hr => first | (go_simp; done) | (go_simp; rfl)); intro gb159 hg w53 hbox hb; have n0_ := zM (zQ zb hb); have n1_ := zM (hbox); have n2_ := zM ((by rw [hg]; exact (zR zb) : w.heap.size ≤ gb159)); have n3_ := zM ((by rw [hg]; exact (zR zb) : w.heap.size ≤ gb159)); clear HB; have HB := n0_; have BK159 := n1_; have GW159 := n2_; have GE159 := n3_; clear n0_ n1_ n2_ n3_; clear hb hbox hg; have hcz54_0 := (z5 BK159.out 0).trans rfl; have hcz54_1 := (z5 BK159.out 1).trans rfl; have hcz54_2 := (z5 BK159.out 2).trans rfl; have hcz54_3 := (z5 BK159.out 3).trans rfl; have hcz54_4 := (z5 BK159.out 4).trans rfl; have hcz54_5 := (z5 BK159.out 5).trans rfl; have hfz54_0 := z6 BK159.out 0; have hfz54_1 := z6 BK159.out 1; have hfz54_2 := z6 BK159.out 2; have hfz54_3 := z6 BK159.out 3; have hfz54_4 := z6 BK159.out 4; have hfz54_5 := z6 BK159.out 5) | ((with_reducible refine gate_callee (f := 27) rfl ?_); refine goesL_ (some 4) rfl rfl Tryz.func27 (by kernel_rfl) rfl #[.agg #[.int .i64 a0_0, .int .i64 a0_1, .int .i64 a0_2, .int .i64 a0_3, .int .i64 a0_4, .int .i64 a0_5]] rfl zg ?_; (with_reducible refine (spec_StmtOk.calls k a0_0 a0_1 a0_2 a0_3 a0_4 a0_5 true _ A2.out).mono ?_); rintro e w55 ⟨rfl, hb⟩; refine ⟨_, rfl, ?_⟩; have n0_ := zM (z7 (g := gb159) (o := .cells #[.int .i64 a0_0, .int .i64 a0_1, .int .i64 a0_2, .int .i64 a0_3, .int .i64 a0_4, .int .i64 a0_5] 35 (0, 0)) zk hb); have n1_ := zM (zQ zb hb); clear BK159; clear HB; have BK159 := n0_; have HB := n1_; clear n0_ n1_; (try clear hb); have hcz56_0 := (z5 BK159.out 0).trans rfl; have hcz56_1 := (z5 BK159.out 1).trans rfl; have hcz56_2 := (z5 BK159.out 2).trans rfl; have hcz56_3 := (z5 BK159.out 3).trans rfl; have hcz56_4 := (z5 BK159.out 4).trans rfl; have hcz56_5 := (z5 BK159.out 5).trans rfl; have hfz56_0 := z6 BK159.out 0; have hfz56_1 := z6 BK159.out 1; have hfz56_2 := z6 BK159.out 2; have hfz56_3 := z6 BK159.out 3; have hfz56_4 := z6 BK159.out 4; have hfz56_5 := z6 BK159.out 5))
  go_ret
  exact ⟨by first | rfl | (simp [errW_none, errW_some] <;> rfl) | (simp [*, errW_none, errW_some] <;> rfl), zb⟩
 replace c3 := Bool.eq_false_iff.mpr c3
 subst c3
 have H1 : (some (⟨#[]⟩ : ByteArray)) = some r := by rw [if_neg (show ¬ (false = true) by decide)] at H; exact H
 clear H
 have H := H1
 clear H1
 obtain rfl := Option.some.inj H
 go_enter Tryz.func11, Tryz.ntmps11
 go_wp2_with (first | ((with_reducible refine gate_dst (N := 1) rfl ?_); refine box_event ?hg (N := 1) ?hd (cs := #[.int .i64 a0_0, .int .i64 a0_1, .int .i64 a0_2, .int .i64 a0_3, .int .i64 a0_4, .int .i64 a0_5]) (t := 35) ?hr ?_; (case hd => rfl); (case hg => rfl); (case hr => first | (go_simp; done) | (go_simp; rfl)); intro gb159 hg w57 hbox hb; have n0_ := zM (zQ zb hb); have n1_ := zM (hbox); have n2_ := zM ((by rw [hg]; exact (zR zb) : w.heap.size ≤ gb159)); have n3_ := zM ((by rw [hg]; exact (zR zb) : w.heap.size ≤ gb159)); clear HB; have HB := n0_; have BK159 := n1_; have GW159 := n2_; have GE159 := n3_; clear n0_ n1_ n2_ n3_; clear hb hbox hg; have hcz58_0 := (z5 BK159.out 0).trans rfl; have hcz58_1 := (z5 BK159.out 1).trans rfl; have hcz58_2 := (z5 BK159.out 2).trans rfl; have hcz58_3 := (z5 BK159.out 3).trans rfl; have hcz58_4 := (z5 BK159.out 4).trans rfl; have hcz58_5 := (z5 BK159.out 5).trans rfl; have hfz58_0 := z6 BK159.out 0; have hfz58_1 := z6 BK159.out 1; have hfz58_2 := z6 BK159.out 2; have hfz58_3 := z6 BK159.out 3; have hfz58_4 := z6 BK159.out 4; have hfz58_5 := z6 BK159.out 5) | ((with_reducible refine gate_callee (f := 27) rfl ?_); refine goesL_ (some 4) rfl rfl Tryz.func27 (by kernel_rfl) rfl #[.agg #[.int .i64 a0_0, .int .i64 a0_1, .int .i64 a0_2, .int .i64 a0_3, .int .i64 a0_4, .int .i64 a0_5]] rfl zg ?_; (with_reducible refine (spec_StmtOk.calls k a0_0 a0_1 a0_2 a0_3 a0_4 a0_5 false _ A2.out).mono ?_); rintro e w59 ⟨rfl, hb⟩; refine ⟨_, rfl, ?_⟩; have n0_ := zM (z7 (g := gb159) (o := .cells #[.int .i64 a0_0, .int .i64 a0_1, .int .i64 a0_2, .int .i64 a0_3, .int .i64 a0_4, .int .i64 a0_5] 35 (0, 0)) zk hb); have n1_ := zM (zQ zb hb); clear BK159; clear HB; have BK159 := n0_; have HB := n1_; clear n0_ n1_; (try clear hb)))
 go_ret
 exact ⟨by first | rfl | (simp [errW_none, errW_some] <;> rfl) | (simp [*, errW_none, errW_some] <;> rfl), zb⟩
end Go.Proofs.YtcpmkcidehhbiaaGreatDoor.PFnExactParseProgram
