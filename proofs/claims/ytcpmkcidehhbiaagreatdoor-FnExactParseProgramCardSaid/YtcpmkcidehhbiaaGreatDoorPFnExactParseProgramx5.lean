/- Walks of the functions that a statement reaches, written by a program (the printing program, mended): no condition. -/
import Derived.Test.YtcpmkcidehhbiaaGreatDoorPFnExactParseProgramx0
import Derived.Test.YtcpmkcidehhbiaaGreatDoorPFnExactParseProgramx3
import Derived.Test.YtcpmkcidehhbiaaGreatDoorPFnExactParseProgramx4
namespace Go.Proofs.YtcpmkcidehhbiaaGreatDoor.PFnExactParseProgram
open Go.RowKit Go.Proofs.YtcpmkcidehhbiaaGreatDoorW.PrintWords Go.Proofs.YtcpmkcidehhbiaaGreatDoorW.PrintLast Go.Proofs.YtcpmkcidehhbiaaGreatDoorW.PrintMore
attribute [local go_sem] max2_int min2_int max_two min_two max_three min_three max_four min_four
set_option linter.unusedVariables false
set_option maxRecDepth 100000
set_option maxHeartbeats 8000000
set_option linter.unusedSimpArgs false
def spec_l06Head.j0 : Nat → ByteArray → List ByteArray → Bool → Option (Int × Int × Int × Bool)
 | 0, _, _, _ => none
 | k + 1, x0, x4, x24 => if x24 = true then (some (0, 0, 0, false)) else (if 1 < (x4.length : Int) then ((spec_l04Number.f k (rdOf ByteArray.empty x4 1)).bind fun t138 => (if 2 < (x4.length : Int) then ((spec_l04Number.f k (rdOf ByteArray.empty x4 2)).bind fun t140 => (if 3 < (x4.length : Int) then ((spec_l04Number.f k (rdOf ByteArray.empty x4 3)).bind fun t142 => ((spec_ExprOk.f t138 t140 t142).bind fun t144 => (if t144 = true then ((spec_l04Expr.f k t138 t140 t142).bind fun t145 => (if 4 + t145.size ≤ 9223372036854775807 then (some (t138, t140, t142, (((⟨#[116, 97, 115, 107]⟩ : ByteArray) ++ t145).toList == x0.toList))) else (none))) else (some (t138, t140, t142, false))))) else (none))) else (none))) else (none))
def spec_l06Head.f (k : Nat) (a0 : ByteArray) : Option (Int × Int × Int × Bool) := (spec_SplitFields.f k a0).bind fun bt132 => (if bt132.2 = true then (if (bt132.1.length : Int) = 4 then (if 0 < (bt132.1.length : Int) then (spec_l06Head.j0 k a0 bt132.1 ((rdOf ByteArray.empty bt132.1 0).toList != ([116, 97, 115, 107] : List UInt8))) else (none)) else (spec_l06Head.j0 k a0 bt132.1 true)) else (spec_l06Head.j0 k a0 bt132.1 true))
theorem spec_l06Head.mono_l : ∀ k, (∀ y0 y1 y2, LeO (spec_l06Head.j0 k y0 y1 y2) (spec_l06Head.j0 (k + 1) y0 y1 y2))
 | 0 => fun _ _ _ r h => by simp [spec_l06Head.j0] at h
 | k + 1 => by
  have ih0 := spec_l06Head.mono_l k
  intro y0 y1 y2
  unfold spec_l06Head.j0
  repeat' first | (with_reducible first | exact ih0 _ _ _ | exact spec_SplitFields.mono _ _ | exact spec_l04Expr.mono _ _ _ _ | exact spec_l04Number.mono _ _ | exact LeO.refl _ | exact LeO.none _ | refine LeO.ite ?_ ?_ | refine LeO.bind ?_ (fun _ => ?_)) | exact ih0 _ _ _ | exact spec_SplitFields.mono _ _ | exact spec_l04Expr.mono _ _ _ _ | exact spec_l04Number.mono _ _ | exact LeO.none _ | refine LeO.ite ?_ ?_ | refine LeO.bind ?_ (fun _ => ?_)
theorem spec_l06Head.mono : ∀ a0 k, LeO (spec_l06Head.f k a0) (spec_l06Head.f (k + 1) a0) := by
 intro a0 k
 have ih0 := spec_l06Head.mono_l k
 unfold spec_l06Head.f
 repeat' first | (with_reducible first | exact ih0 _ _ _ | exact spec_SplitFields.mono _ _ | exact spec_l04Expr.mono _ _ _ _ | exact spec_l04Number.mono _ _ | exact LeO.refl _ | exact LeO.none _ | refine LeO.ite ?_ ?_ | refine LeO.bind ?_ (fun _ => ?_)) | exact ih0 _ _ _ | exact spec_SplitFields.mono _ _ | exact spec_l04Expr.mono _ _ _ _ | exact spec_l04Number.mono _ _ | exact LeO.none _ | refine LeO.ite ?_ ?_ | refine LeO.bind ?_ (fun _ => ?_)
def spec_l06Head.T4 : Bool × List (List Nat × List Nat) := (true, [([], []), ([0], [0]), ([1], [1]), ([2], [2]), ([], []), ([4], [4]), ([5], [5]), ([6, 3], [6]), ([], []), ([8], [8]), ([9], [9]), ([10, 7], [10]), ([3, 7, 11], [3, 7, 11]), ([], []), ([13, 12, 11, 0, 1, 2, 3, 4, 5, 6, 7, 8, 9, 10, 11, 12, 13], [12, 13])])
def spec_l06Head.B4 : List Nat := [0, 1, 3, 7, 0, 16, 48, 127, 0, 256, 768, 2047, 4095, 0, 16383]
theorem spec_l06Head.tab4 : rtab .any (opsOf Tryz.f9 4) = spec_l06Head.T4 := by kernel_rfl
theorem spec_l06Head.bits4 : waitsOk spec_l06Head.T4.2 spec_l06Head.B4 = true := by kernel_rfl
def spec_l06Head.T5 : Bool × List (List Nat × List Nat) := (true, [([], []), ([], []), ([1], [1]), ([2, 2], [2]), ([3], [3]), ([4, 3, 3], [3, 4]), ([5, 3], [3, 5]), ([3], [3]), ([6, 7, 3], [3, 6, 7]), ([3, 8], [3, 8]), ([0, 5, 0], [0]), ([9, 10, 0, 1, 2, 3, 4, 5, 6, 7, 8, 9, 10], [9])])
def spec_l06Head.B5 : List Nat := [0, 0, 2, 6, 14, 30, 62, 14, 254, 510, 63, 2047]
theorem spec_l06Head.tab5 : rtab .any (opsOf Tryz.f9 5) = spec_l06Head.T5 := by kernel_rfl
theorem spec_l06Head.bits5 : waitsOk spec_l06Head.T5.2 spec_l06Head.B5 = true := by kernel_rfl
theorem spec_l06Head.calls (k : Nat) (a0 : ByteArray) (r1 : Int) (r2 : Int) (r3 : Int) (r4 : Bool) (w : World) (h : spec_l06Head.f k a0 = some (r1, r2, r3, r4)) :
  Calls Tryz.prog 9 #[.string a0] w fun e w' => e = .returned (.tuple #[.agg #[.int .i64 r1, .int .i64 r2, .int .i64 r3], .bool r4]) ∧ Below w.heap.size w w' := by
 have hu31 := Tryz.underlying31
 have HB := zM (Below.refl w.heap.size w)
 have H : ((spec_SplitFields.f k a0).bind fun bt132 => (if bt132.2 = true then (if (bt132.1.length : Int) = 4 then (if 0 < (bt132.1.length : Int) then (spec_l06Head.j0 k a0 bt132.1 ((rdOf ByteArray.empty bt132.1 0).toList != ([116, 97, 115, 107] : List UInt8))) else (none)) else (spec_l06Head.j0 k a0 bt132.1 true)) else (spec_l06Head.j0 k a0 bt132.1 true))) = some (r1, r2, r3, r4) := h
 clear h
 replace H := Option.bind_eq_some_iff.mp H
 obtain ⟨⟨t132, t133⟩, A20, H⟩ := H
 replace H : (if t133 = true then (if (t132.length : Int) = 4 then (if 0 < (t132.length : Int) then (spec_l06Head.j0 k a0 t132 ((rdOf ByteArray.empty t132 0).toList != ([116, 97, 115, 107] : List UInt8))) else (none)) else (spec_l06Head.j0 k a0 t132 true)) else (spec_l06Head.j0 k a0 t132 true)) = some (r1, r2, r3, r4) := H
 have A2 := zM A20
 clear A20
 have HC3 := zM H
 clear H
 go_enter Tryz.func9, Tryz.ntmps9
 go_upto_region 2 with (first | ((with_reducible refine gate_dst (N := 2) rfl ?_); (try (refine gate_guard (by rfl) ?_; dsimp only)); refine box_event ?hg (N := 2) ?hd (cs := #[.int .i64 0, .int .i64 0, .int .i64 0]) (t := 31) ?hr ?_; (case hd => rfl); (case hg => rfl); (case hr => first | (go_simp; done) | (go_simp; rfl)); intro gb131 hg w4 hbox hb; have n0_ := zM (zQ zb hb); have n1_ := zM (hbox); have n2_ := zM ((by rw [hg]; exact (zR zb) : w.heap.size ≤ gb131)); have n3_ := zM ((by rw [hg]; exact (zR zb) : w.heap.size ≤ gb131)); clear HB; have HB := n0_; have BK131 := n1_; have GW131 := n2_; have GE131 := n3_; clear n0_ n1_ n2_ n3_; clear hb hbox hg) | ((with_reducible refine gate_callee (f := 21) rfl ?_); refine goesL_ (some 9) rfl rfl Tryz.func21 (by kernel_rfl) rfl #[.string a0] rfl zg ?_; (with_reducible refine (spec_SplitFields.calls k a0 t132 t133 _ A2.out).mono ?_); rintro e w5 ⟨v134, rfl, ho0, hb⟩; refine ⟨_, rfl, ?_⟩; have n0_ := zM (zf ho0 (zR zb)); have n1_ := zM (z7 (g := gb131) (o := .cells #[.int .i64 0, .int .i64 0, .int .i64 0] 31 (0, 0)) zk hb); have n2_ := zM (zQ zb hb); clear BK131; clear HB; have HO135 := n0_; have BK131 := n1_; have HB := n2_; clear n0_ n1_ n2_; (try clear hb); (try clear ho0)))
 (try simp only [Act.put, List.setIfInBounds_toArray, List.set_cons_zero, List.set_cons_succ])
 go_cut [24] (fun v24 wc => ∃ (kq : Nat) (x24_2 : Bool), v24 = .bool x24_2 ∧ Aside0 (spec_l06Head.j0 kq a0 t132 x24_2 = some (r1, r2, r3, r4)) ∧ Aside0 (kq ≤ k) ∧ Aside0 (Kd.R Kd.string 9 wc w.heap.size (fun _ => True) v134 t132) ∧ Aside0 (wc.heap[gb131]? = some (.cells #[.int .i64 0, .int .i64 0, .int .i64 0] 31 (0, 0))) ∧ Aside0 (Below w.heap.size w wc))
 case first =>
  have H := HC3.out
  clear HC3
  by_cases c6 : t133 = true
  ·subst c6
   have H1 : (if (t132.length : Int) = 4 then (if 0 < (t132.length : Int) then (spec_l06Head.j0 k a0 t132 ((rdOf ByteArray.empty t132 0).toList != ([116, 97, 115, 107] : List UInt8))) else (none)) else (spec_l06Head.j0 k a0 t132 true)) = some (r1, r2, r3, r4) := by rw [if_pos rfl] at H; exact H
   clear H
   have H := H1
   clear H1
   by_cases c7 : (t132.length : Int) = 4
   ·rw [if_pos c7] at H
    have c7b0 : ((t132.length : Int) == 4) = true := beq_iff_eq.mpr c7
    have c7b1 : ((t132.length : Int) != 4) = false := bne_eq_false_iff_eq.mpr c7
    clear c7
    (first | rw [c7b0] | (simp only [i64_w, i32_w]; rw [c7b0]) | skip)
    by_cases c8 : 0 < (t132.length : Int)
    ·rw [if_pos c8] at H
     have c8b0 : decide (0 < (t132.length : Int)) = true := decide_eq_true c8
     have c8b1 : decide (0 < t132.length) = true := decide_eq_true (by omega)
     clear c8
     have H' := zM H
     clear H
     obtain ⟨Ao9, co9, eo9⟩ := Kd.R_slice HO135.out
     subst eo9
     have p136 : 0 ≤ (0 : Int) := (by omega)
     have q136 : 0 < (t132.length : Int) := zd
     obtain ⟨ad136, e136, hx136_0⟩ := Kd.at_string (z9 HO135.out).2.2 0 p136 q136
     cases e136
     have qi136 : (0 < t132.length) = True := eq_true (by omega)
     (try rw [show ((0 : Int)).toNat = 0 from rfl] at hx136_0)
     (try rw [Addr.add_zero'] at hx136_0)
     replace p136 := eq_true p136
     replace q136 := eq_true q136
     go_wp2
     go_meet
     case rel => exact ⟨_, (((rdOf ByteArray.empty t132 0).toList != ([116, 97, 115, 107] : List UInt8))), zs, H', ⟨by first | omega | exact Nat.le_refl _⟩, ⟨by (with_reducible repeat (first | apply zI | apply zJ | apply zK)); exact HO135.out⟩, ⟨zk⟩, ⟨zb⟩⟩
    rw [if_neg c8] at H
    exact absurd H (by simp)
   rw [if_neg c7] at H
   have c7b0 : ((t132.length : Int) == 4) = false := beq_eq_false_iff_ne.mpr c7
   have c7b1 : ((t132.length : Int) != 4) = true := bne_iff_ne.mpr c7
   (first | rw [c7b0] | (simp only [i64_w, i32_w]; rw [c7b0]) | skip)
   have H' := zM H
   clear H
   obtain ⟨Ao10, co10, eo10⟩ := Kd.R_slice HO135.out
   subst eo10
   go_wp2
   go_meet
   case rel => exact ⟨_, (true), zs, H', ⟨by first | omega | exact Nat.le_refl _⟩, ⟨by (with_reducible repeat (first | apply zI | apply zJ | apply zK)); exact HO135.out⟩, ⟨zk⟩, ⟨zb⟩⟩
  replace c6 := Bool.eq_false_iff.mpr c6
  subst c6
  have H1 : (spec_l06Head.j0 k a0 t132 true) = some (r1, r2, r3, r4) := by rw [if_neg (show ¬ (false = true) by decide)] at H; exact H
  clear H
  have H := H1
  clear H1
  have H' := zM H
  clear H
  go_wp2
  go_meet
  case rel => exact ⟨_, (true), zs, H', ⟨by first | omega | exact Nat.le_refl _⟩, ⟨by (with_reducible repeat (first | apply zI | apply zJ | apply zK)); exact HO135.out⟩, ⟨zk⟩, ⟨zb⟩⟩
 case rest =>
  clear HC3
  try clear p1
  try clear q1
  try clear hx1
  try clear qi1
  try clear c2
  try clear p2
  try clear c6
  try clear c7
  try clear c7b0
  try clear c7b1
  try clear c8
  try clear c8b0
  try clear c8b1
  try clear c9
  try clear hx136_0
  try clear p136
  try clear q136
  obtain ⟨kq, x24_2, rfl, HA, HJ2, HO_4, BK131, HB⟩ := hcut
  cases kq with
  | zero => exact absurd HA.out (by simp [spec_l06Head.j0])
  | succ kj2 =>
   have H := HA.out
   clear HA
   simp only [spec_l06Head.j0] at H
   by_cases c11 : x24_2 = true
   ·subst c11
    have H1 : (some (0, 0, 0, false)) = some (r1, r2, r3, r4) := by rw [if_pos rfl] at H; exact H
    clear H
    have H := H1
    clear H1
    simp only [Option.some.injEq, Prod.mk.injEq] at H
    obtain ⟨rfl, rfl, rfl, rfl⟩ := H
    have hcz12_0 := (z5 BK131.out 0).trans rfl
    have hcz12_1 := (z5 BK131.out 1).trans rfl
    have hcz12_2 := (z5 BK131.out 2).trans rfl
    have hfz12_0 := z6 BK131.out 0
    have hfz12_1 := z6 BK131.out 1
    have hfz12_2 := z6 BK131.out 2
    go_wp2
    refine bodyPost_ret (results_ct rfl _ _ gb131 31 #[.int .i64 0, .int .i64 0, .int .i64 0] (0, 0) _ rfl (by (with_reducible repeat (first | refine zN ?_ _ | refine zO ?_ | refine zP ?_ _)); refine blk_put (cs := #[.int .i64 0, .int .i64 0, .int .i64 0]) ?_ 2 _ rfl; (with_reducible repeat (first | refine zN ?_ _ | refine zO ?_ | refine zP ?_ _)); refine blk_put (cs := #[.int .i64 0, .int .i64 0, .int .i64 0]) ?_ 1 _ rfl; (with_reducible repeat (first | refine zN ?_ _ | refine zO ?_ | refine zP ?_ _)); refine blk_put (cs := #[.int .i64 0, .int .i64 0, .int .i64 0]) ?_ 0 _ rfl; (with_reducible repeat (first | refine zN ?_ _ | refine zO ?_ | refine zP ?_ _)); exact BK131.out) Tryz.underlying31 rfl (by kernel_rfl)) rfl ?_
    exact ⟨by first | rfl | (simp [errW_none, errW_some] <;> rfl) | (simp [*, errW_none, errW_some] <;> rfl), zb⟩
   replace c11 := Bool.eq_false_iff.mpr c11
   subst c11
   have H1 : (if 1 < (t132.length : Int) then ((spec_l04Number.f kj2 (rdOf ByteArray.empty t132 1)).bind fun t138 => (if 2 < (t132.length : Int) then ((spec_l04Number.f kj2 (rdOf ByteArray.empty t132 2)).bind fun t140 => (if 3 < (t132.length : Int) then ((spec_l04Number.f kj2 (rdOf ByteArray.empty t132 3)).bind fun t142 => ((spec_ExprOk.f t138 t140 t142).bind fun t144 => (if t144 = true then ((spec_l04Expr.f kj2 t138 t140 t142).bind fun t145 => (if 4 + t145.size ≤ 9223372036854775807 then (some (t138, t140, t142, (((⟨#[116, 97, 115, 107]⟩ : ByteArray) ++ t145).toList == a0.toList))) else (none))) else (some (t138, t140, t142, false))))) else (none))) else (none))) else (none)) = some (r1, r2, r3, r4) := by rw [if_neg (show ¬ (false = true) by decide)] at H; exact H
   clear H
   have H := H1
   clear H1
   by_cases c13 : 1 < (t132.length : Int)
   ·rw [if_pos c13] at H
    have c13b0 : decide (1 < (t132.length : Int)) = true := decide_eq_true c13
    have c13b1 : decide (1 < t132.length) = true := decide_eq_true (by omega)
    clear c13
    replace H := Option.bind_eq_some_iff.mp H
    obtain ⟨t138, A140, H⟩ := H
    replace H : (if 2 < (t132.length : Int) then ((spec_l04Number.f kj2 (rdOf ByteArray.empty t132 2)).bind fun t140 => (if 3 < (t132.length : Int) then ((spec_l04Number.f kj2 (rdOf ByteArray.empty t132 3)).bind fun t142 => ((spec_ExprOk.f t138 t140 t142).bind fun t144 => (if t144 = true then ((spec_l04Expr.f kj2 t138 t140 t142).bind fun t145 => (if 4 + t145.size ≤ 9223372036854775807 then (some (t138, t140, t142, (((⟨#[116, 97, 115, 107]⟩ : ByteArray) ++ t145).toList == a0.toList))) else (none))) else (some (t138, t140, t142, false))))) else (none))) else (none)) = some (r1, r2, r3, r4) := H
    have A14 := zM A140
    clear A140
    by_cases c15 : 2 < (t132.length : Int)
    ·rw [if_pos c15] at H
     have c15b0 : decide (2 < (t132.length : Int)) = true := decide_eq_true c15
     have c15b1 : decide (2 < t132.length) = true := decide_eq_true (by omega)
     clear c15
     replace H := Option.bind_eq_some_iff.mp H
     obtain ⟨t140, A160, H⟩ := H
     replace H : (if 3 < (t132.length : Int) then ((spec_l04Number.f kj2 (rdOf ByteArray.empty t132 3)).bind fun t142 => ((spec_ExprOk.f t138 t140 t142).bind fun t144 => (if t144 = true then ((spec_l04Expr.f kj2 t138 t140 t142).bind fun t145 => (if 4 + t145.size ≤ 9223372036854775807 then (some (t138, t140, t142, (((⟨#[116, 97, 115, 107]⟩ : ByteArray) ++ t145).toList == a0.toList))) else (none))) else (some (t138, t140, t142, false))))) else (none)) = some (r1, r2, r3, r4) := H
     have A16 := zM A160
     clear A160
     by_cases c17 : 3 < (t132.length : Int)
     ·rw [if_pos c17] at H
      have c17b0 : decide (3 < (t132.length : Int)) = true := decide_eq_true c17
      have c17b1 : decide (3 < t132.length) = true := decide_eq_true (by omega)
      clear c17
      replace H := Option.bind_eq_some_iff.mp H
      obtain ⟨t142, A180, H⟩ := H
      replace H : ((spec_ExprOk.f t138 t140 t142).bind fun t144 => (if t144 = true then ((spec_l04Expr.f kj2 t138 t140 t142).bind fun t145 => (if 4 + t145.size ≤ 9223372036854775807 then (some (t138, t140, t142, (((⟨#[116, 97, 115, 107]⟩ : ByteArray) ++ t145).toList == a0.toList))) else (none))) else (some (t138, t140, t142, false)))) = some (r1, r2, r3, r4) := H
      have A18 := zM A180
      clear A180
      replace H := Option.bind_eq_some_iff.mp H
      obtain ⟨t144, A190, H⟩ := H
      replace H : (if t144 = true then ((spec_l04Expr.f kj2 t138 t140 t142).bind fun t145 => (if 4 + t145.size ≤ 9223372036854775807 then (some (t138, t140, t142, (((⟨#[116, 97, 115, 107]⟩ : ByteArray) ++ t145).toList == a0.toList))) else (none))) else (some (t138, t140, t142, false))) = some (r1, r2, r3, r4) := H
      have A19 := zM A190
      clear A190
      by_cases c20 : t144 = true
      ·subst c20
       have H1 : ((spec_l04Expr.f kj2 t138 t140 t142).bind fun t145 => (if 4 + t145.size ≤ 9223372036854775807 then (some (t138, t140, t142, (((⟨#[116, 97, 115, 107]⟩ : ByteArray) ++ t145).toList == a0.toList))) else (none))) = some (r1, r2, r3, r4) := by rw [if_pos rfl] at H; exact H
       clear H
       have H := H1
       clear H1
       replace H := Option.bind_eq_some_iff.mp H
       obtain ⟨t145, A210, H⟩ := H
       replace H : (if 4 + t145.size ≤ 9223372036854775807 then (some (t138, t140, t142, (((⟨#[116, 97, 115, 107]⟩ : ByteArray) ++ t145).toList == a0.toList))) else (none)) = some (r1, r2, r3, r4) := H
       have A21 := zM A210
       clear A210
       by_cases c22 : 4 + t145.size ≤ 9223372036854775807
       ·rw [if_pos c22] at H
        have c22b0 := eq_true c22
        have c22b1 : decide (4 + t145.size ≤ 9223372036854775807) = true := decide_eq_true c22
        try have c22b2 : (9223372036854775807 < 4 + t145.size) = False := eq_false (Nat.not_lt.2 c22)
        simp only [Option.some.injEq, Prod.mk.injEq] at H
        obtain ⟨rfl, rfl, rfl, rfl⟩ := H
        try go_wp2
        have n0_ := zM (zK HO_4.out)
        have n1_ := zM (zO BK131.out)
        have n2_ := zM (z4 HB.out)
        clear HO_4
        clear BK131
        clear HB
        have HO_4 := n0_
        have BK131 := n1_
        have HB := n2_
        clear n0_ n1_ n2_
        obtain ⟨Ao24, co24, eo24⟩ := Kd.R_slice HO_4.out
        (first | subst eo24 | (injection eo24 with f1_ f2_ f3_; have f4_ := f1_.symm; have f5_ := f3_.symm; clear f1_ f2_ f3_; subst f4_; subst f5_))
        have p137 : 0 ≤ (1 : Int) := (by omega)
        have q137 : 1 < (t132.length : Int) := zd
        obtain ⟨ad137, e137, hx137_0⟩ := Kd.at_string (z9 HO_4.out).2.2 1 p137 q137
        cases e137
        (try simp only [show (1 : Int).toNat = 1 from rfl, Nat.reduceMul, Nat.reduceEqDiff, Go.Addr.add, ↓reduceIte] at hx137_0)
        have qi137 : (1 < t132.length) = True := eq_true (by omega)
        (try rw [show ((1 : Int)).toNat = 1 from rfl] at hx137_0)
        replace p137 := eq_true p137
        replace q137 := eq_true q137
        have p139 : 0 ≤ (2 : Int) := (by omega)
        have q139 : 2 < (t132.length : Int) := zd
        obtain ⟨ad139, e139, hx139_0⟩ := Kd.at_string (z9 HO_4.out).2.2 2 p139 q139
        obtain rfl : ad137 = ad139 := (by injection e139)
        (try simp only [show (2 : Int).toNat = 2 from rfl, Nat.reduceMul, Nat.reduceEqDiff, Go.Addr.add, ↓reduceIte] at hx139_0)
        have qi139 : (2 < t132.length) = True := eq_true (by omega)
        (try rw [show ((2 : Int)).toNat = 2 from rfl] at hx139_0)
        replace p139 := eq_true p139
        replace q139 := eq_true q139
        have p141 : 0 ≤ (3 : Int) := (by omega)
        have q141 : 3 < (t132.length : Int) := zd
        obtain ⟨ad141, e141, hx141_0⟩ := Kd.at_string (z9 HO_4.out).2.2 3 p141 q141
        obtain rfl : ad137 = ad141 := (by injection e141)
        (try simp only [show (3 : Int).toNat = 3 from rfl, Nat.reduceMul, Nat.reduceEqDiff, Go.Addr.add, ↓reduceIte] at hx141_0)
        have qi141 : (3 < t132.length) = True := eq_true (by omega)
        (try rw [show ((3 : Int)).toNat = 3 from rfl] at hx141_0)
        replace p141 := eq_true p141
        replace q141 := eq_true q141
        refine start_ (n := 15) (S := fun w' => w'.cell? ⟨ad137.block, ad137.off + 1, none⟩ = some (.string (rdOf ByteArray.empty t132 1)) ∧ w'.cell? ⟨ad137.block, ad137.off + 2, none⟩ = some (.string (rdOf ByteArray.empty t132 2)) ∧ w'.cell? ⟨ad137.block, ad137.off + 3, none⟩ = some (.string (rdOf ByteArray.empty t132 3))) (ds := []) #[false, false, false, false, false, false, false, false, false, false, false, false, false, false, false] (by kernel_rfl) rfl rfl ⟨hx137_0, hx139_0, hx141_0⟩ (fun hHeld => ?_); refine with_tabW spec_l06Head.tab4 spec_l06Head.bits4 (fun HT_ HW_ => ?_)
        generalize wc.drew = w23 at HO_4 BK131 HB hx137_0 hx139_0 hx141_0 hHeld ⊢
        refine pure_ (i := 0) (N := some 26) (v := ?_) (a' := ?_) #[true, false, false, false, false, false, false, false, false, false, false, false, false, false, false] rfl rfl (any_of HT_.out (by kernel_rfl)) (fun _ _ _ h => h) (Or.inl ⟨by rfl, ?_⟩) ?_ ?_
        rotate_left
        ·intro w'
         go_simp
         with_reducible rfl
        rotate_left
        ·exact zu
        refine pure_ (i := 1) (N := some 27) (v := ?_) (a' := ?_) #[true, true, false, false, false, false, false, false, false, false, false, false, false, false, false] rfl rfl (any_of HT_.out (by kernel_rfl)) (fun _ _ _ h => h) (Or.inl ⟨by rfl, ?_⟩) ?_ ?_
        rotate_left
        ·intro w'
         go_simp
         with_reducible rfl
        rotate_left
        ·exact zu
        refine pure_ (i := 4) (N := some 30) (v := ?_) (a' := ?_) #[true, true, false, false, true, false, false, false, false, false, false, false, false, false, false] rfl rfl (any_of HT_.out (by kernel_rfl)) (fun _ _ _ h => h) (Or.inl ⟨by rfl, ?_⟩) ?_ ?_
        rotate_left
        ·intro w'
         go_simp
         with_reducible rfl
        rotate_left
        ·exact zu
        refine pure_ (i := 5) (N := some 31) (v := ?_) (a' := ?_) #[true, true, false, false, true, true, false, false, false, false, false, false, false, false, false] rfl rfl (any_of HT_.out (by kernel_rfl)) (fun _ _ _ h => h) (Or.inl ⟨by rfl, ?_⟩) ?_ ?_
        rotate_left
        ·intro w'
         go_simp
         with_reducible rfl
        rotate_left
        ·exact zu
        refine pure_ (i := 8) (N := some 34) (v := ?_) (a' := ?_) #[true, true, false, false, true, true, false, false, true, false, false, false, false, false, false] rfl rfl (any_of HT_.out (by kernel_rfl)) (fun _ _ _ h => h) (Or.inl ⟨by rfl, ?_⟩) ?_ ?_
        rotate_left
        ·intro w'
         go_simp
         with_reducible rfl
        rotate_left
        ·exact zu
        refine pure_ (i := 9) (N := some 35) (v := ?_) (a' := ?_) #[true, true, false, false, true, true, false, false, true, true, false, false, false, false, false] rfl rfl (any_of HT_.out (by kernel_rfl)) (fun _ _ _ h => h) (Or.inl ⟨by rfl, ?_⟩) ?_ ?_
        rotate_left
        ·intro w'
         go_simp
         with_reducible rfl
        rotate_left
        ·exact zu
        refine take_ (i := 2) (N := some 28) (v := ?_) (a' := ?_) #[true, true, true, false, true, true, false, false, true, true, false, false, false, false, false] rfl rfl (take_ofW HT_.out HW_.out (by kernel_rfl)) (fun _ _ _ h => h) (Or.inl ⟨by rfl, ?_⟩) hHeld ?_ ?_
        rotate_left
        ·rintro w' ⟨s0, s1, s2⟩
         go_simp
         with_reducible rfl
        rotate_left
        ·exact zu
        refine take_ (i := 6) (N := some 32) (v := ?_) (a' := ?_) #[true, true, true, false, true, true, true, false, true, true, false, false, false, false, false] rfl rfl (take_ofW HT_.out HW_.out (by kernel_rfl)) (fun _ _ _ h => h) (Or.inl ⟨by rfl, ?_⟩) hHeld ?_ ?_
        rotate_left
        ·rintro w' ⟨s0, s1, s2⟩
         go_simp
         with_reducible rfl
        rotate_left
        ·exact zu
        refine take_ (i := 10) (N := some 36) (v := ?_) (a' := ?_) #[true, true, true, false, true, true, true, false, true, true, true, false, false, false, false] rfl rfl (take_ofW HT_.out HW_.out (by kernel_rfl)) (fun _ _ _ h => h) (Or.inl ⟨by rfl, ?_⟩) hHeld ?_ ?_
        rotate_left
        ·rintro w' ⟨s0, s1, s2⟩
         go_simp
         with_reducible rfl
        rotate_left
        ·exact zu
        refine join_ (σ := Nat) 1 #[true, true, true, true, true, true, true, true, true, true, true, true, true, true, false] (fun s_ => [(29, .int .i64 t138), (33, .int .i64 t140), (37, .int .i64 t142), (6, .pointer (some ⟨s_, 0, none⟩)), (38, .agg #[.int .i64 t138, .int .i64 t140, .int .i64 t142])]) (fun s_ w' => (w'.cell? ⟨ad137.block, ad137.off + 1, none⟩ = some (.string (rdOf ByteArray.empty t132 1)) ∧ w'.cell? ⟨ad137.block, ad137.off + 2, none⟩ = some (.string (rdOf ByteArray.empty t132 2)) ∧ w'.cell? ⟨ad137.block, ad137.off + 3, none⟩ = some (.string (rdOf ByteArray.empty t132 3))) ∧ (Kd.R Kd.string 9 w' w.heap.size (fun _ => True) (.slice (some ad137) t132.length co24) t132) ∧ (w'.heap[gb131]? = some (.cells #[.int .i64 0, .int .i64 0, .int .i64 0] 31 (0, 0))) ∧ (w'.heap[s_]? = some (.cells #[.int .i64 0, .int .i64 0, .int .i64 0] 31 (0, 0))) ∧ (w.heap.size ≤ s_) ∧ (w.heap.size ≤ s_) ∧ (gb131 ≠ s_) ∧ (s_ ≠ gb131) ∧ (Below w.heap.size w w')) ?_ ?_
        rotate_left
        ·intro hCont
         refine two_ (i := 3) (j := 13) (Ni := some 29) (Nj := some 6) #[true, true, true, true, true, true, true, false, true, true, true, false, false, false, false] #[true, true, true, false, true, true, true, false, true, true, true, false, false, true, false] rfl rfl rfl rfl (two_of HT_.out (by kernel_rfl)) (by decide) (by decide) (fun K hK => ?_) (fun K hK => ?_)
         ·skip
          refine goes_ Tryz.func22 (by kernel_rfl) rfl #[.string (rdOf ByteArray.empty t132 1)] (by rfl) rfl rfl zg ?_
          with_reducible refine (spec_l04Number.calls kj2 (rdOf ByteArray.empty t132 1) t138 _ A14.out).mono ?_
          rintro e w' ⟨rfl, ⟨nd, rfl⟩⟩
          refine ⟨_, rfl, ?_⟩
          refine hK.out _ _ ⟨hHeld.1, hHeld.2.1, hHeld.2.2⟩ (fun hHeld => ?_)
          clear hK K
          refine norm_ (a' := ?_) ?_ ?_
          rotate_left
          ·show Act.put _ (some 29) _ = _
           exact zu
          refine two_ (i := 7) (j := 13) (Ni := some 33) (Nj := some 6) #[true, true, true, true, true, true, true, true, true, true, true, false, false, false, false] #[true, true, true, true, true, true, true, false, true, true, true, false, false, true, false] rfl rfl rfl rfl (two_of HT_.out (by kernel_rfl)) (by decide) (by decide) (fun K hK => ?_) (fun K hK => ?_)
          ·skip
           refine goes_ Tryz.func22 (by kernel_rfl) rfl #[.string (rdOf ByteArray.empty t132 2)] (by rfl) rfl rfl zg ?_
           with_reducible refine (spec_l04Number.calls kj2 (rdOf ByteArray.empty t132 2) t140 _ A16.out).mono ?_
           rintro e w' ⟨rfl, ⟨nd, rfl⟩⟩
           refine ⟨_, rfl, ?_⟩
           refine hK.out _ _ ⟨hHeld.1, hHeld.2.1, hHeld.2.2⟩ (fun hHeld => ?_)
           clear hK K
           refine norm_ (a' := ?_) ?_ ?_
           rotate_left
           ·show Act.put _ (some 33) _ = _
            exact zu
           refine two_ (i := 11) (j := 13) (Ni := some 37) (Nj := some 6) #[true, true, true, true, true, true, true, true, true, true, true, true, false, false, false] #[true, true, true, true, true, true, true, true, true, true, true, false, false, true, false] rfl rfl rfl rfl (two_of HT_.out (by kernel_rfl)) (by decide) (by decide) (fun K hK => ?_) (fun K hK => ?_)
           ·skip
            refine goes_ Tryz.func22 (by kernel_rfl) rfl #[.string (rdOf ByteArray.empty t132 3)] (by rfl) rfl rfl zg ?_
            with_reducible refine (spec_l04Number.calls kj2 (rdOf ByteArray.empty t132 3) t142 _ A18.out).mono ?_
            rintro e w' ⟨rfl, ⟨nd, rfl⟩⟩
            refine ⟨_, rfl, ?_⟩
            refine hK.out _ _ ⟨hHeld.1, hHeld.2.1, hHeld.2.2⟩ (fun hHeld => ?_)
            clear hK K
            refine norm_ (a' := ?_) ?_ ?_
            rotate_left
            ·show Act.put _ (some 37) _ = _
             exact zu
            refine pure_ (i := 12) (N := some 38) (v := ?_) (a' := ?_) #[true, true, true, true, true, true, true, true, true, true, true, true, true, false, false] rfl rfl (any_of HT_.out (by kernel_rfl)) (fun _ _ _ h => h) (Or.inl ⟨by rfl, ?_⟩) ?_ ?_
            rotate_left
            ·intro w'
             go_simp
             with_reducible rfl
            rotate_left
            ·exact zu
            refine one_ (i := 13) (N := some 6) #[true, true, true, true, true, true, true, true, true, true, true, true, true, true, false] rfl rfl (one_of HT_.out (by kernel_rfl)) (by decide) (fun K hK => ?_)
            refine box_step ?hg (N := 6) ?hd (cs := #[.int .i64 0, .int .i64 0, .int .i64 0]) (t := 31) ?hr ?_; (case hd => rfl); (case hg => rfl); (case hr => first | (go_simp; done) | (go_simp; rfl))
            intro gb143 hg w25 hbox hb
            have HS0_ := (hb.cell (zm _ _ (hHeld.1))).trans (hHeld.1)
            have HS1_ := (hb.cell (zm _ _ (hHeld.2.1))).trans (hHeld.2.1)
            have HS2_ := (hb.cell (zm _ _ (hHeld.2.2))).trans (hHeld.2.2)
            have n0_ := zM (ze (by (with_reducible repeat (first | apply zI | apply zJ | apply zK)); exact HO_4.out) hb)
            have n1_ := zM (z7 (g := gb131) (o := .cells #[.int .i64 0, .int .i64 0, .int .i64 0] 31 (0, 0)) zk hb)
            have n2_ := zM (zQ zb hb)
            have n3_ := zM (hbox)
            have n4_ := zM ((by rw [hg]; exact (zR zb) : w.heap.size ≤ gb143))
            have n5_ := zM ((by rw [hg]; exact (zR zb) : w.heap.size ≤ gb143))
            have n6_ := zM ((by rw [hg]; exact Nat.ne_of_lt (blk_lt (g := gb131) (o := .cells #[.int .i64 0, .int .i64 0, .int .i64 0] 31 (0, 0)) zk) : gb131 ≠ gb143))
            have n7_ := zM ((by rw [hg]; exact Nat.ne_of_gt (blk_lt (g := gb131) (o := .cells #[.int .i64 0, .int .i64 0, .int .i64 0] 31 (0, 0)) zk) : gb143 ≠ gb131))
            clear HO_4
            clear BK131
            clear HB
            have HO_4 := n0_
            have BK131 := n1_
            have HB := n2_
            have BK143 := n3_
            have GW143 := n4_
            have GE143 := n5_
            have NB131_143 := n6_
            have NB143_131 := n7_
            clear n0_ n1_ n2_ n3_ n4_ n5_ n6_ n7_
            clear hb hbox hg
            refine hK.out _ _ ⟨HS0_, HS1_, HS2_⟩ (fun hHeld => ?_)
            clear hK K
            refine norm_ (a' := ?_) ?_ ?_
            rotate_left
            ·show Act.put _ (some 6) _ = _
             exact zu
            exact norm_ (by simp only [putAll, Act.put, List.setIfInBounds_toArray, List.set_cons_zero, List.set_cons_succ]) (hCont (gb143) _ ⟨hHeld, (by (with_reducible repeat (first | apply zI | apply zJ | apply zK)); exact HO_4.out), zk, zk, GW143.out, GE143.out, NB131_143.out, NB143_131.out, zb⟩)
           skip
           refine box_step ?hg (N := 6) ?hd (cs := #[.int .i64 0, .int .i64 0, .int .i64 0]) (t := 31) ?hr ?_; (case hd => rfl); (case hg => rfl); (case hr => first | (go_simp; done) | (go_simp; rfl))
           intro gb143 hg w25 hbox hb
           have HS0_ := (hb.cell (zm _ _ (hHeld.1))).trans (hHeld.1)
           have HS1_ := (hb.cell (zm _ _ (hHeld.2.1))).trans (hHeld.2.1)
           have HS2_ := (hb.cell (zm _ _ (hHeld.2.2))).trans (hHeld.2.2)
           have n0_ := zM (ze (by (with_reducible repeat (first | apply zI | apply zJ | apply zK)); exact HO_4.out) hb)
           have n1_ := zM (z7 (g := gb131) (o := .cells #[.int .i64 0, .int .i64 0, .int .i64 0] 31 (0, 0)) zk hb)
           have n2_ := zM (zQ zb hb)
           have n3_ := zM (hbox)
           have n4_ := zM ((by rw [hg]; exact (zR zb) : w.heap.size ≤ gb143))
           have n5_ := zM ((by rw [hg]; exact (zR zb) : w.heap.size ≤ gb143))
           have n6_ := zM ((by rw [hg]; exact Nat.ne_of_lt (blk_lt (g := gb131) (o := .cells #[.int .i64 0, .int .i64 0, .int .i64 0] 31 (0, 0)) zk) : gb131 ≠ gb143))
           have n7_ := zM ((by rw [hg]; exact Nat.ne_of_gt (blk_lt (g := gb131) (o := .cells #[.int .i64 0, .int .i64 0, .int .i64 0] 31 (0, 0)) zk) : gb143 ≠ gb131))
           clear HO_4
           clear BK131
           clear HB
           have HO_4 := n0_
           have BK131 := n1_
           have HB := n2_
           have BK143 := n3_
           have GW143 := n4_
           have GE143 := n5_
           have NB131_143 := n6_
           have NB143_131 := n7_
           clear n0_ n1_ n2_ n3_ n4_ n5_ n6_ n7_
           clear hb hbox hg
           refine hK.out _ _ ⟨HS0_, HS1_, HS2_⟩ (fun hHeld => ?_)
           clear hK K
           refine norm_ (a' := ?_) ?_ ?_
           rotate_left
           ·show Act.put _ (some 6) _ = _
            exact zu
           refine one_ (i := 11) (N := some 37) #[true, true, true, true, true, true, true, true, true, true, true, true, false, true, false] rfl rfl (one_of HT_.out (by kernel_rfl)) (by decide) (fun K hK => ?_)
           refine goes_ Tryz.func22 (by kernel_rfl) rfl #[.string (rdOf ByteArray.empty t132 3)] (by rfl) rfl rfl zg ?_
           with_reducible refine (spec_l04Number.calls kj2 (rdOf ByteArray.empty t132 3) t142 _ A18.out).mono ?_
           rintro e w' ⟨rfl, ⟨nd, rfl⟩⟩
           refine ⟨_, rfl, ?_⟩
           refine hK.out _ _ ⟨hHeld.1, hHeld.2.1, hHeld.2.2⟩ (fun hHeld => ?_)
           clear hK K
           refine norm_ (a' := ?_) ?_ ?_
           rotate_left
           ·show Act.put _ (some 37) _ = _
            exact zu
           refine pure_ (i := 12) (N := some 38) (v := ?_) (a' := ?_) #[true, true, true, true, true, true, true, true, true, true, true, true, true, true, false] rfl rfl (any_of HT_.out (by kernel_rfl)) (fun _ _ _ h => h) (Or.inl ⟨by rfl, ?_⟩) ?_ ?_
           rotate_left
           ·intro w'
            go_simp
            with_reducible rfl
           rotate_left
           ·exact zu
           exact norm_ (by simp only [putAll, Act.put, List.setIfInBounds_toArray, List.set_cons_zero, List.set_cons_succ]) (hCont (gb143) _ ⟨hHeld, (by (with_reducible repeat (first | apply zI | apply zJ | apply zK)); exact HO_4.out), zk, zk, GW143.out, GE143.out, NB131_143.out, NB143_131.out, zb⟩)
          skip
          refine box_step ?hg (N := 6) ?hd (cs := #[.int .i64 0, .int .i64 0, .int .i64 0]) (t := 31) ?hr ?_; (case hd => rfl); (case hg => rfl); (case hr => first | (go_simp; done) | (go_simp; rfl))
          intro gb143 hg w25 hbox hb
          have HS0_ := (hb.cell (zm _ _ (hHeld.1))).trans (hHeld.1)
          have HS1_ := (hb.cell (zm _ _ (hHeld.2.1))).trans (hHeld.2.1)
          have HS2_ := (hb.cell (zm _ _ (hHeld.2.2))).trans (hHeld.2.2)
          have n0_ := zM (ze (by (with_reducible repeat (first | apply zI | apply zJ | apply zK)); exact HO_4.out) hb)
          have n1_ := zM (z7 (g := gb131) (o := .cells #[.int .i64 0, .int .i64 0, .int .i64 0] 31 (0, 0)) zk hb)
          have n2_ := zM (zQ zb hb)
          have n3_ := zM (hbox)
          have n4_ := zM ((by rw [hg]; exact (zR zb) : w.heap.size ≤ gb143))
          have n5_ := zM ((by rw [hg]; exact (zR zb) : w.heap.size ≤ gb143))
          have n6_ := zM ((by rw [hg]; exact Nat.ne_of_lt (blk_lt (g := gb131) (o := .cells #[.int .i64 0, .int .i64 0, .int .i64 0] 31 (0, 0)) zk) : gb131 ≠ gb143))
          have n7_ := zM ((by rw [hg]; exact Nat.ne_of_gt (blk_lt (g := gb131) (o := .cells #[.int .i64 0, .int .i64 0, .int .i64 0] 31 (0, 0)) zk) : gb143 ≠ gb131))
          clear HO_4
          clear BK131
          clear HB
          have HO_4 := n0_
          have BK131 := n1_
          have HB := n2_
          have BK143 := n3_
          have GW143 := n4_
          have GE143 := n5_
          have NB131_143 := n6_
          have NB143_131 := n7_
          clear n0_ n1_ n2_ n3_ n4_ n5_ n6_ n7_
          clear hb hbox hg
          refine hK.out _ _ ⟨HS0_, HS1_, HS2_⟩ (fun hHeld => ?_)
          clear hK K
          refine norm_ (a' := ?_) ?_ ?_
          rotate_left
          ·show Act.put _ (some 6) _ = _
           exact zu
          refine one_ (i := 7) (N := some 33) #[true, true, true, true, true, true, true, true, true, true, true, false, false, true, false] rfl rfl (one_of HT_.out (by kernel_rfl)) (by decide) (fun K hK => ?_)
          refine goes_ Tryz.func22 (by kernel_rfl) rfl #[.string (rdOf ByteArray.empty t132 2)] (by rfl) rfl rfl zg ?_
          with_reducible refine (spec_l04Number.calls kj2 (rdOf ByteArray.empty t132 2) t140 _ A16.out).mono ?_
          rintro e w' ⟨rfl, ⟨nd, rfl⟩⟩
          refine ⟨_, rfl, ?_⟩
          refine hK.out _ _ ⟨hHeld.1, hHeld.2.1, hHeld.2.2⟩ (fun hHeld => ?_)
          clear hK K
          refine norm_ (a' := ?_) ?_ ?_
          rotate_left
          ·show Act.put _ (some 33) _ = _
           exact zu
          refine one_ (i := 11) (N := some 37) #[true, true, true, true, true, true, true, true, true, true, true, true, false, true, false] rfl rfl (one_of HT_.out (by kernel_rfl)) (by decide) (fun K hK => ?_)
          refine goes_ Tryz.func22 (by kernel_rfl) rfl #[.string (rdOf ByteArray.empty t132 3)] (by rfl) rfl rfl zg ?_
          with_reducible refine (spec_l04Number.calls kj2 (rdOf ByteArray.empty t132 3) t142 _ A18.out).mono ?_
          rintro e w' ⟨rfl, ⟨nd, rfl⟩⟩
          refine ⟨_, rfl, ?_⟩
          refine hK.out _ _ ⟨hHeld.1, hHeld.2.1, hHeld.2.2⟩ (fun hHeld => ?_)
          clear hK K
          refine norm_ (a' := ?_) ?_ ?_
          rotate_left
          ·show Act.put _ (some 37) _ = _
           exact zu
          refine pure_ (i := 12) (N := some 38) (v := ?_) (a' := ?_) #[true, true, true, true, true, true, true, true, true, true, true, true, true, true, false] rfl rfl (any_of HT_.out (by kernel_rfl)) (fun _ _ _ h => h) (Or.inl ⟨by rfl, ?_⟩) ?_ ?_
          rotate_left
          ·intro w'
           go_simp
           with_reducible rfl
          rotate_left
          ·exact zu
          exact norm_ (by simp only [putAll, Act.put, List.setIfInBounds_toArray, List.set_cons_zero, List.set_cons_succ]) (hCont (gb143) _ ⟨hHeld, (by (with_reducible repeat (first | apply zI | apply zJ | apply zK)); exact HO_4.out), zk, zk, GW143.out, GE143.out, NB131_143.out, NB143_131.out, zb⟩)
         skip
         refine box_step ?hg (N := 6) ?hd (cs := #[.int .i64 0, .int .i64 0, .int .i64 0]) (t := 31) ?hr ?_; (case hd => rfl); (case hg => rfl); (case hr => first | (go_simp; done) | (go_simp; rfl))
         intro gb143 hg w25 hbox hb
         have HS0_ := (hb.cell (zm _ _ (hHeld.1))).trans (hHeld.1)
         have HS1_ := (hb.cell (zm _ _ (hHeld.2.1))).trans (hHeld.2.1)
         have HS2_ := (hb.cell (zm _ _ (hHeld.2.2))).trans (hHeld.2.2)
         have n0_ := zM (ze (by (with_reducible repeat (first | apply zI | apply zJ | apply zK)); exact HO_4.out) hb)
         have n1_ := zM (z7 (g := gb131) (o := .cells #[.int .i64 0, .int .i64 0, .int .i64 0] 31 (0, 0)) zk hb)
         have n2_ := zM (zQ zb hb)
         have n3_ := zM (hbox)
         have n4_ := zM ((by rw [hg]; exact (zR zb) : w.heap.size ≤ gb143))
         have n5_ := zM ((by rw [hg]; exact (zR zb) : w.heap.size ≤ gb143))
         have n6_ := zM ((by rw [hg]; exact Nat.ne_of_lt (blk_lt (g := gb131) (o := .cells #[.int .i64 0, .int .i64 0, .int .i64 0] 31 (0, 0)) zk) : gb131 ≠ gb143))
         have n7_ := zM ((by rw [hg]; exact Nat.ne_of_gt (blk_lt (g := gb131) (o := .cells #[.int .i64 0, .int .i64 0, .int .i64 0] 31 (0, 0)) zk) : gb143 ≠ gb131))
         clear HO_4
         clear BK131
         clear HB
         have HO_4 := n0_
         have BK131 := n1_
         have HB := n2_
         have BK143 := n3_
         have GW143 := n4_
         have GE143 := n5_
         have NB131_143 := n6_
         have NB143_131 := n7_
         clear n0_ n1_ n2_ n3_ n4_ n5_ n6_ n7_
         clear hb hbox hg
         refine hK.out _ _ ⟨HS0_, HS1_, HS2_⟩ (fun hHeld => ?_)
         clear hK K
         refine norm_ (a' := ?_) ?_ ?_
         rotate_left
         ·show Act.put _ (some 6) _ = _
          exact zu
         refine one_ (i := 3) (N := some 29) #[true, true, true, true, true, true, true, false, true, true, true, false, false, true, false] rfl rfl (one_of HT_.out (by kernel_rfl)) (by decide) (fun K hK => ?_)
         refine goes_ Tryz.func22 (by kernel_rfl) rfl #[.string (rdOf ByteArray.empty t132 1)] (by rfl) rfl rfl zg ?_
         with_reducible refine (spec_l04Number.calls kj2 (rdOf ByteArray.empty t132 1) t138 _ A14.out).mono ?_
         rintro e w' ⟨rfl, ⟨nd, rfl⟩⟩
         refine ⟨_, rfl, ?_⟩
         refine hK.out _ _ ⟨hHeld.1, hHeld.2.1, hHeld.2.2⟩ (fun hHeld => ?_)
         clear hK K
         refine norm_ (a' := ?_) ?_ ?_
         rotate_left
         ·show Act.put _ (some 29) _ = _
          exact zu
         refine one_ (i := 7) (N := some 33) #[true, true, true, true, true, true, true, true, true, true, true, false, false, true, false] rfl rfl (one_of HT_.out (by kernel_rfl)) (by decide) (fun K hK => ?_)
         refine goes_ Tryz.func22 (by kernel_rfl) rfl #[.string (rdOf ByteArray.empty t132 2)] (by rfl) rfl rfl zg ?_
         with_reducible refine (spec_l04Number.calls kj2 (rdOf ByteArray.empty t132 2) t140 _ A16.out).mono ?_
         rintro e w' ⟨rfl, ⟨nd, rfl⟩⟩
         refine ⟨_, rfl, ?_⟩
         refine hK.out _ _ ⟨hHeld.1, hHeld.2.1, hHeld.2.2⟩ (fun hHeld => ?_)
         clear hK K
         refine norm_ (a' := ?_) ?_ ?_
         rotate_left
         ·show Act.put _ (some 33) _ = _
          exact zu
         refine one_ (i := 11) (N := some 37) #[true, true, true, true, true, true, true, true, true, true, true, true, false, true, false] rfl rfl (one_of HT_.out (by kernel_rfl)) (by decide) (fun K hK => ?_)
         refine goes_ Tryz.func22 (by kernel_rfl) rfl #[.string (rdOf ByteArray.empty t132 3)] (by rfl) rfl rfl zg ?_
         with_reducible refine (spec_l04Number.calls kj2 (rdOf ByteArray.empty t132 3) t142 _ A18.out).mono ?_
         rintro e w' ⟨rfl, ⟨nd, rfl⟩⟩
         refine ⟨_, rfl, ?_⟩
         refine hK.out _ _ ⟨hHeld.1, hHeld.2.1, hHeld.2.2⟩ (fun hHeld => ?_)
         clear hK K
         refine norm_ (a' := ?_) ?_ ?_
         rotate_left
         ·show Act.put _ (some 37) _ = _
          exact zu
         refine pure_ (i := 12) (N := some 38) (v := ?_) (a' := ?_) #[true, true, true, true, true, true, true, true, true, true, true, true, true, true, false] rfl rfl (any_of HT_.out (by kernel_rfl)) (fun _ _ _ h => h) (Or.inl ⟨by rfl, ?_⟩) ?_ ?_
         rotate_left
         ·intro w'
          go_simp
          with_reducible rfl
         rotate_left
         ·exact zu
         exact norm_ (by simp only [putAll, Act.put, List.setIfInBounds_toArray, List.set_cons_zero, List.set_cons_succ]) (hCont (gb143) _ ⟨hHeld, (by (with_reducible repeat (first | apply zI | apply zJ | apply zK)); exact HO_4.out), zk, zk, GW143.out, GE143.out, NB131_143.out, NB143_131.out, zb⟩)
        rintro gb143 w26 ⟨hS_, h0_, h1_, h2_, h3_, h4_, h5_, h6_, h7_⟩
        have n0_ : Aside0 (Kd.R Kd.string 9 w26 w.heap.size (fun _ => True) (.slice (some ad137) t132.length co24) t132) := ⟨h0_⟩
        have n1_ : Aside0 (w26.heap[gb131]? = some (.cells #[.int .i64 0, .int .i64 0, .int .i64 0] 31 (0, 0))) := ⟨h1_⟩
        have n2_ : Aside0 (w26.heap[gb143]? = some (.cells #[.int .i64 0, .int .i64 0, .int .i64 0] 31 (0, 0))) := ⟨h2_⟩
        have n3_ : Aside0 (w.heap.size ≤ gb143) := ⟨h3_⟩
        have n4_ : Aside0 (w.heap.size ≤ gb143) := ⟨h4_⟩
        have n5_ : Aside0 (gb131 ≠ gb143) := ⟨h5_⟩
        have n6_ : Aside0 (gb143 ≠ gb131) := ⟨h6_⟩
        have n7_ : Aside0 (Below w.heap.size w w26) := ⟨h7_⟩
        clear HO_4
        clear BK131
        clear HB
        clear h0_ h1_ h2_ h3_ h4_ h5_ h6_ h7_
        have HO_4 := n0_
        have BK131 := n1_
        have BK143 := n2_
        have GW143 := n3_
        have GE143 := n4_
        have NB131_143 := n5_
        have NB143_131 := n6_
        have HB := n7_
        clear n0_ n1_ n2_ n3_ n4_ n5_ n6_ n7_
        have hHeld : w26.cell? ⟨ad137.block, ad137.off + 1, none⟩ = some (.string (rdOf ByteArray.empty t132 1)) ∧ w26.cell? ⟨ad137.block, ad137.off + 2, none⟩ = some (.string (rdOf ByteArray.empty t132 2)) ∧ w26.cell? ⟨ad137.block, ad137.off + 3, none⟩ = some (.string (rdOf ByteArray.empty t132 3)) := hS_
        refine norm_ (a' := ?_) ?_ ?_
        rotate_left
        ·simp only [putAll, Act.put, List.setIfInBounds_toArray, List.set_cons_zero, List.set_cons_succ]
         rfl
        refine one_ (i := 14) (N := none) #[true, true, true, true, true, true, true, true, true, true, true, true, true, true, true] rfl rfl (one_of HT_.out (by kernel_rfl)) (by decide) (fun K hK => ?_)
        have hs27 : w26.cell? ⟨gb143, 0, none⟩ = some (.int .i64 0) := (z5 BK143.out 0).trans rfl
        have hfs27 := z6 BK143.out 0
        have hns27_0 := NB131_143.out
        have hms27_0 := NB143_131.out
        have hs28 : w26.cell? ⟨gb143, 1, none⟩ = some (.int .i64 0) := (z5 BK143.out 1).trans rfl
        have hfs28 := z6 BK143.out 1
        have hns28_0 := NB131_143.out
        have hms28_0 := NB143_131.out
        have hs29 : w26.cell? ⟨gb143, 2, none⟩ = some (.int .i64 0) := (z5 BK143.out 2).trans rfl
        have hfs29 := z6 BK143.out 2
        have hns29_0 := NB131_143.out
        have hms29_0 := NB143_131.out
        refine skip_ (w1 := ?_) (by rfl) rfl ?_ ?_
        rotate_left
        ·go_simp
         rfl
        refine hK.out _ _ ⟨((cell_far (p := ⟨gb143, _, none⟩) (by first | exact Kd.own_blk (Kd.R_ne HO_4.out BK143.out (by decide)) | (rw [add_block]; exact Kd.own_blk (Kd.R_ne HO_4.out BK143.out (by decide))) | (show (Addr.add _ _).block ≠ _; rw [add_block]; exact Kd.own_blk (Kd.R_ne HO_4.out BK143.out (by decide))) | (dsimp only; exact Kd.own_blk (Kd.R_ne HO_4.out BK143.out (by decide)))) _).trans (((cell_far (p := ⟨gb143, _, none⟩) (by first | exact Kd.own_blk (Kd.R_ne HO_4.out BK143.out (by decide)) | (rw [add_block]; exact Kd.own_blk (Kd.R_ne HO_4.out BK143.out (by decide))) | (show (Addr.add _ _).block ≠ _; rw [add_block]; exact Kd.own_blk (Kd.R_ne HO_4.out BK143.out (by decide))) | (dsimp only; exact Kd.own_blk (Kd.R_ne HO_4.out BK143.out (by decide)))) _).trans (((cell_far (p := ⟨gb143, _, none⟩) (by first | exact Kd.own_blk (Kd.R_ne HO_4.out BK143.out (by decide)) | (rw [add_block]; exact Kd.own_blk (Kd.R_ne HO_4.out BK143.out (by decide))) | (show (Addr.add _ _).block ≠ _; rw [add_block]; exact Kd.own_blk (Kd.R_ne HO_4.out BK143.out (by decide))) | (dsimp only; exact Kd.own_blk (Kd.R_ne HO_4.out BK143.out (by decide)))) _).trans (hHeld.1)))))), ((cell_far (p := ⟨gb143, _, none⟩) (by first | exact Kd.own_blk (Kd.R_ne HO_4.out BK143.out (by decide)) | (rw [add_block]; exact Kd.own_blk (Kd.R_ne HO_4.out BK143.out (by decide))) | (show (Addr.add _ _).block ≠ _; rw [add_block]; exact Kd.own_blk (Kd.R_ne HO_4.out BK143.out (by decide))) | (dsimp only; exact Kd.own_blk (Kd.R_ne HO_4.out BK143.out (by decide)))) _).trans (((cell_far (p := ⟨gb143, _, none⟩) (by first | exact Kd.own_blk (Kd.R_ne HO_4.out BK143.out (by decide)) | (rw [add_block]; exact Kd.own_blk (Kd.R_ne HO_4.out BK143.out (by decide))) | (show (Addr.add _ _).block ≠ _; rw [add_block]; exact Kd.own_blk (Kd.R_ne HO_4.out BK143.out (by decide))) | (dsimp only; exact Kd.own_blk (Kd.R_ne HO_4.out BK143.out (by decide)))) _).trans (((cell_far (p := ⟨gb143, _, none⟩) (by first | exact Kd.own_blk (Kd.R_ne HO_4.out BK143.out (by decide)) | (rw [add_block]; exact Kd.own_blk (Kd.R_ne HO_4.out BK143.out (by decide))) | (show (Addr.add _ _).block ≠ _; rw [add_block]; exact Kd.own_blk (Kd.R_ne HO_4.out BK143.out (by decide))) | (dsimp only; exact Kd.own_blk (Kd.R_ne HO_4.out BK143.out (by decide)))) _).trans (hHeld.2.1)))))), ((cell_far (p := ⟨gb143, _, none⟩) (by first | exact Kd.own_blk (Kd.R_ne HO_4.out BK143.out (by decide)) | (rw [add_block]; exact Kd.own_blk (Kd.R_ne HO_4.out BK143.out (by decide))) | (show (Addr.add _ _).block ≠ _; rw [add_block]; exact Kd.own_blk (Kd.R_ne HO_4.out BK143.out (by decide))) | (dsimp only; exact Kd.own_blk (Kd.R_ne HO_4.out BK143.out (by decide)))) _).trans (((cell_far (p := ⟨gb143, _, none⟩) (by first | exact Kd.own_blk (Kd.R_ne HO_4.out BK143.out (by decide)) | (rw [add_block]; exact Kd.own_blk (Kd.R_ne HO_4.out BK143.out (by decide))) | (show (Addr.add _ _).block ≠ _; rw [add_block]; exact Kd.own_blk (Kd.R_ne HO_4.out BK143.out (by decide))) | (dsimp only; exact Kd.own_blk (Kd.R_ne HO_4.out BK143.out (by decide)))) _).trans (((cell_far (p := ⟨gb143, _, none⟩) (by first | exact Kd.own_blk (Kd.R_ne HO_4.out BK143.out (by decide)) | (rw [add_block]; exact Kd.own_blk (Kd.R_ne HO_4.out BK143.out (by decide))) | (show (Addr.add _ _).block ≠ _; rw [add_block]; exact Kd.own_blk (Kd.R_ne HO_4.out BK143.out (by decide))) | (dsimp only; exact Kd.own_blk (Kd.R_ne HO_4.out BK143.out (by decide)))) _).trans (hHeld.2.2))))))⟩ (fun hHeld => ?_)
        clear hK K
        refine done_ (done_of HT_.out (by kernel_rfl)) ?_
        try go_wp2
        have n0_ : Aside0 (Kd.R Kd.string 9 (((w26.setCell ⟨gb143, 0, none⟩ (.int .i64 t138)).setCell ⟨gb143, 1, none⟩ (.int .i64 t140)).setCell ⟨gb143, 2, none⟩ (.int .i64 t142)) w.heap.size (fun _ => True) (.slice (some ad137) t132.length co24) t132) := ⟨by (with_reducible repeat (first | apply zI | apply zJ | apply zK)); exact z1 (zc (p := ⟨gb143, 2, none⟩) (zc (p := ⟨gb143, 1, none⟩) (zc (p := ⟨gb143, 0, none⟩) (Kd.R_types HO_4.out BK143.out (by decide)) (fun _ hk => hk.2) (.int .i64 t138)) (fun _ hk => hk.2) (.int .i64 t140)) (fun _ hk => hk.2) (.int .i64 t142)) (fun _ hk => trivial)⟩
        have n1_ : Aside0 ((((w26.setCell ⟨gb143, 0, none⟩ (.int .i64 t138)).setCell ⟨gb143, 1, none⟩ (.int .i64 t140)).setCell ⟨gb143, 2, none⟩ (.int .i64 t142)).heap[gb131]? = some (.cells #[.int .i64 0, .int .i64 0, .int .i64 0] 31 (0, 0))) := ⟨zl NB131_143.out BK131.out⟩
        have n2_ : Aside0 ((((w26.setCell ⟨gb143, 0, none⟩ (.int .i64 t138)).setCell ⟨gb143, 1, none⟩ (.int .i64 t140)).setCell ⟨gb143, 2, none⟩ (.int .i64 t142)).heap[gb143]? = some (.cells #[.int .i64 t138, .int .i64 t140, .int .i64 t142] 31 (0, 0))) := ⟨by (with_reducible repeat (first | refine zN ?_ _ | refine zO ?_ | refine zP ?_ _)); refine blk_put (cs := #[.int .i64 t138, .int .i64 t140, .int .i64 0]) ?_ 2 _ rfl; (with_reducible repeat (first | refine zN ?_ _ | refine zO ?_ | refine zP ?_ _)); refine blk_put (cs := #[.int .i64 t138, .int .i64 0, .int .i64 0]) ?_ 1 _ rfl; (with_reducible repeat (first | refine zN ?_ _ | refine zO ?_ | refine zP ?_ _)); refine blk_put (cs := #[.int .i64 0, .int .i64 0, .int .i64 0]) ?_ 0 _ rfl; (with_reducible repeat (first | refine zN ?_ _ | refine zO ?_ | refine zP ?_ _)); exact BK143.out⟩
        have n3_ : Aside0 (Below w.heap.size w (((w26.setCell ⟨gb143, 0, none⟩ (.int .i64 t138)).setCell ⟨gb143, 1, none⟩ (.int .i64 t140)).setCell ⟨gb143, 2, none⟩ (.int .i64 t142))) := ⟨zb⟩
        (try clear HO_4)
        (try clear BK131)
        (try clear BK143)
        (try clear HB)
        generalize (((w26.setCell ⟨gb143, 0, none⟩ (.int .i64 t138)).setCell ⟨gb143, 1, none⟩ (.int .i64 t140)).setCell ⟨gb143, 2, none⟩ (.int .i64 t142)) = w30 at n0_ n1_ n2_ n3_ ⊢
        have HO_4 := n0_
        have BK131 := n1_
        have BK143 := n2_
        have HB := n3_
        clear n0_ n1_ n2_ n3_
        have n0_ := zM (zK HO_4.out)
        have n1_ := zM (zO BK131.out)
        have n2_ := zM (zO BK143.out)
        have n3_ := zM (z4 HB.out)
        clear HO_4
        clear BK131
        clear BK143
        clear HB
        have HO_4 := n0_
        have BK131 := n1_
        have BK143 := n2_
        have HB := n3_
        clear n0_ n1_ n2_ n3_
        refine start_ (n := 12) (S := fun w' => w'.cell? ⟨gb143, 0, none⟩ = some (.int .i64 t138) ∧ w'.cell? ⟨gb143, 1, none⟩ = some (.int .i64 t140) ∧ w'.cell? ⟨gb143, 2, none⟩ = some (.int .i64 t142)) (ds := []) #[false, false, false, false, false, false, false, false, false, false, false, false] (by kernel_rfl) rfl rfl ⟨(z5 BK143.out 0).trans rfl, (z5 BK143.out 1).trans rfl, (z5 BK143.out 2).trans rfl⟩ (fun hHeld => ?_); refine with_tabW spec_l06Head.tab5 spec_l06Head.bits5 (fun HT_ HW_ => ?_)
        generalize w30.drew = w31 at HO_4 BK131 BK143 HB hHeld ⊢
        refine take_ (i := 0) (N := some 39) (v := ?_) (a' := ?_) #[true, false, false, false, false, false, false, false, false, false, false, false] rfl rfl (take_ofW HT_.out HW_.out (by kernel_rfl)) (fun _ _ _ h => h) (Or.inl ⟨by rfl, ?_⟩) hHeld ?_ ?_
        rotate_left
        ·rintro w' ⟨s0, s1, s2⟩
         go_simp
         with_reducible rfl
        rotate_left
        ·exact zu
        refine take_ (i := 1) (N := some 40) (v := ?_) (a' := ?_) #[true, true, false, false, false, false, false, false, false, false, false, false] rfl rfl (take_ofW HT_.out HW_.out (by kernel_rfl)) (fun _ _ _ h => h) (Or.inl ⟨by rfl, ?_⟩) hHeld ?_ ?_
        rotate_left
        ·rintro w' ⟨s0, s1, s2⟩
         go_simp
         with_reducible rfl
        rotate_left
        ·exact zu
        refine one_ (i := 2) (N := some 41) #[true, true, true, false, false, false, false, false, false, false, false, false] rfl rfl (one_of HT_.out (by kernel_rfl)) (by decide) (fun K hK => ?_)
        refine goes_ Tryz.func23 (by kernel_rfl) rfl #[.agg #[.int .i64 t138, .int .i64 t140, .int .i64 t142]] (by rfl) rfl rfl zg ?_
        with_reducible refine (spec_ExprOk.calls t138 t140 t142 true _ A19.out).mono ?_
        rintro e w32 ⟨rfl, hb⟩
        refine ⟨_, rfl, ?_⟩
        have n0_ := zM (ze (by (with_reducible repeat (first | apply zI | apply zJ | apply zK)); exact HO_4.out) hb)
        have n1_ := zM (z7 (g := gb131) (o := .cells #[.int .i64 0, .int .i64 0, .int .i64 0] 31 (0, 0)) zk hb)
        have n2_ := zM (z7 (g := gb143) (o := .cells #[.int .i64 t138, .int .i64 t140, .int .i64 t142] 31 (0, 0)) zk hb)
        have n3_ := zM (zQ zb hb)
        clear HO_4
        clear BK131
        clear BK143
        clear HB
        have HO_4 := n0_
        have BK131 := n1_
        have BK143 := n2_
        have HB := n3_
        clear n0_ n1_ n2_ n3_
        (try clear hb)
        (try clear hb2)
        (try clear hk)
        (try clear hi)
        refine hK.out _ _ ⟨(z5 BK143.out 0).trans rfl, (z5 BK143.out 1).trans rfl, (z5 BK143.out 2).trans rfl⟩ (fun hHeld => ?_)
        clear hK K
        refine norm_ (a' := ?_) ?_ ?_
        rotate_left
        ·show Act.put _ (some 41) _ = _
         exact zu
        refine pure_ (i := 3) (N := some 42) (v := ?_) (a' := ?_) #[true, true, true, true, false, false, false, false, false, false, false, false] rfl rfl (any_of HT_.out (by kernel_rfl)) (fun _ _ _ h => h) (Or.inl ⟨by rfl, ?_⟩) ?_ ?_
        rotate_left
        ·intro w'
         go_simp
         with_reducible rfl
        rotate_left
        ·exact zu
        refine pure_ (i := 7) (N := some 46) (v := ?_) (a' := ?_) #[true, true, true, true, false, false, false, true, false, false, false, false] rfl rfl (any_of HT_.out (by kernel_rfl)) (fun _ _ _ h => h) (Or.inl ⟨by rfl, ?_⟩) ?_ ?_
        rotate_left
        ·intro w'
         go_simp
         with_reducible rfl
        rotate_left
        ·exact zu
        refine take_ (i := 4) (N := some 43) (v := ?_) (a' := ?_) #[true, true, true, true, true, false, false, true, false, false, false, false] rfl rfl (take_ofW HT_.out HW_.out (by kernel_rfl)) (fun _ _ _ h => h) (Or.inl ⟨by rfl, ?_⟩) hHeld ?_ ?_
        rotate_left
        ·rintro w' ⟨s0, s1, s2⟩
         go_simp
         with_reducible rfl
        rotate_left
        ·exact zu
        refine one_ (i := 5) (N := some 44) #[true, true, true, true, true, true, false, true, false, false, false, false] rfl rfl (one_of HT_.out (by kernel_rfl)) (by decide) (fun K hK => ?_)
        refine goes_ Tryz.func24 (by kernel_rfl) rfl #[.agg #[.int .i64 t138, .int .i64 t140, .int .i64 t142]] (by rfl) rfl rfl zg ?_
        with_reducible refine (spec_l04Expr.calls kj2 t138 t140 t142 t145 _ A21.out).mono ?_
        rintro e w33 ⟨rfl, hb⟩
        refine ⟨_, rfl, ?_⟩
        have n0_ := zM (ze (by (with_reducible repeat (first | apply zI | apply zJ | apply zK)); exact HO_4.out) hb)
        have n1_ := zM (z7 (g := gb131) (o := .cells #[.int .i64 0, .int .i64 0, .int .i64 0] 31 (0, 0)) zk hb)
        have n2_ := zM (z7 (g := gb143) (o := .cells #[.int .i64 t138, .int .i64 t140, .int .i64 t142] 31 (0, 0)) zk hb)
        have n3_ := zM (zQ zb hb)
        clear HO_4
        clear BK131
        clear BK143
        clear HB
        have HO_4 := n0_
        have BK131 := n1_
        have BK143 := n2_
        have HB := n3_
        clear n0_ n1_ n2_ n3_
        (try clear hb)
        (try clear hb2)
        (try clear hk)
        (try clear hi)
        refine hK.out _ _ ⟨(z5 BK143.out 0).trans rfl, (z5 BK143.out 1).trans rfl, (z5 BK143.out 2).trans rfl⟩ (fun hHeld => ?_)
        clear hK K
        refine norm_ (a' := ?_) ?_ ?_
        rotate_left
        ·show Act.put _ (some 44) _ = _
         exact zu
        refine pure_ (i := 6) (N := some 45) (v := ?_) (a' := ?_) #[true, true, true, true, true, true, true, true, false, false, false, false] rfl rfl (any_of HT_.out (by kernel_rfl)) (fun _ _ _ h => h) (Or.inl ⟨by rfl, ?_⟩) ?_ ?_
        rotate_left
        ·intro w'
         go_simp
         with_reducible rfl
        rotate_left
        ·exact zu
        refine pure_ (i := 8) (N := some 47) (v := ?_) (a' := ?_) #[true, true, true, true, true, true, true, true, true, false, false, false] rfl rfl (any_of HT_.out (by kernel_rfl)) (fun _ _ _ h => h) (Or.inl ⟨by rfl, ?_⟩) ?_ ?_
        rotate_left
        ·intro w'
         go_simp
         with_reducible rfl
        rotate_left
        ·exact zu
        refine pure_ (i := 9) (N := some 48) (v := ?_) (a' := ?_) #[true, true, true, true, true, true, true, true, true, true, false, false] rfl rfl (any_of HT_.out (by kernel_rfl)) (fun _ _ _ h => h) (Or.inl ⟨by rfl, ?_⟩) ?_ ?_
        rotate_left
        ·intro w'
         go_simp
         with_reducible rfl
        rotate_left
        ·exact zu
        refine one_ (i := 10) (N := none) #[true, true, true, true, true, true, true, true, true, true, true, false] rfl rfl (one_of HT_.out (by kernel_rfl)) (by decide) (fun K hK => ?_)
        have hs34 : w33.cell? ⟨gb131, 0, none⟩ = some (.int .i64 0) := (z5 BK131.out 0).trans rfl
        have hfs34 := z6 BK131.out 0
        have hns34_1 := NB143_131.out
        have hms34_1 := NB131_143.out
        have hs35 : w33.cell? ⟨gb131, 1, none⟩ = some (.int .i64 0) := (z5 BK131.out 1).trans rfl
        have hfs35 := z6 BK131.out 1
        have hns35_1 := NB143_131.out
        have hms35_1 := NB131_143.out
        have hs36 : w33.cell? ⟨gb131, 2, none⟩ = some (.int .i64 0) := (z5 BK131.out 2).trans rfl
        have hfs36 := z6 BK131.out 2
        have hns36_1 := NB143_131.out
        have hms36_1 := NB131_143.out
        refine skip_ (w1 := ?_) (by rfl) rfl ?_ ?_
        rotate_left
        ·go_simp
         rfl
        refine hK.out _ _ ⟨((cell_far (p := ⟨gb131, _, none⟩) NB143_131.out _).trans (((cell_far (p := ⟨gb131, _, none⟩) NB143_131.out _).trans (((cell_far (p := ⟨gb131, _, none⟩) NB143_131.out _).trans (hHeld.1)))))), ((cell_far (p := ⟨gb131, _, none⟩) NB143_131.out _).trans (((cell_far (p := ⟨gb131, _, none⟩) NB143_131.out _).trans (((cell_far (p := ⟨gb131, _, none⟩) NB143_131.out _).trans (hHeld.2.1)))))), ((cell_far (p := ⟨gb131, _, none⟩) NB143_131.out _).trans (((cell_far (p := ⟨gb131, _, none⟩) NB143_131.out _).trans (((cell_far (p := ⟨gb131, _, none⟩) NB143_131.out _).trans (hHeld.2.2))))))⟩ (fun hHeld => ?_)
        clear hK K
        refine pure_ (i := 11) (N := some 3) (v := ?_) (a' := ?_) #[true, true, true, true, true, true, true, true, true, true, true, true] rfl rfl (any_of HT_.out (by kernel_rfl)) (fun _ _ _ h => h) (Or.inl ⟨by rfl, ?_⟩) ?_ ?_
        rotate_left
        ·intro w'
         go_simp
         with_reducible rfl
        rotate_left
        ·exact zu
        refine done_ (done_of HT_.out (by kernel_rfl)) ?_
        try go_wp2
        refine bodyPost_ret (results_ct rfl _ _ gb131 31 #[.int .i64 t138, .int .i64 t140, .int .i64 t142] (0, 0) _ rfl (by (with_reducible repeat (first | refine zN ?_ _ | refine zO ?_ | refine zP ?_ _)); refine blk_put (cs := #[.int .i64 t138, .int .i64 t140, .int .i64 0]) ?_ 2 _ rfl; (with_reducible repeat (first | refine zN ?_ _ | refine zO ?_ | refine zP ?_ _)); refine blk_put (cs := #[.int .i64 t138, .int .i64 0, .int .i64 0]) ?_ 1 _ rfl; (with_reducible repeat (first | refine zN ?_ _ | refine zO ?_ | refine zP ?_ _)); refine blk_put (cs := #[.int .i64 0, .int .i64 0, .int .i64 0]) ?_ 0 _ rfl; (with_reducible repeat (first | refine zN ?_ _ | refine zO ?_ | refine zP ?_ _)); exact BK131.out) Tryz.underlying31 rfl (by kernel_rfl)) rfl ?_
        exact ⟨by first | rfl | (simp [errW_none, errW_some] <;> rfl) | (simp [*, errW_none, errW_some] <;> rfl), zb⟩
       rw [if_neg c22] at H
       exact absurd H (by simp)
      replace c20 := Bool.eq_false_iff.mpr c20
      subst c20
      have H1 : (some (t138, t140, t142, false)) = some (r1, r2, r3, r4) := by rw [if_neg (show ¬ (false = true) by decide)] at H; exact H
      clear H
      have H := H1
      clear H1
      simp only [Option.some.injEq, Prod.mk.injEq] at H
      obtain ⟨rfl, rfl, rfl, rfl⟩ := H
      try go_wp2
      have n0_ := zM (zK HO_4.out)
      have n1_ := zM (zO BK131.out)
      have n2_ := zM (z4 HB.out)
      clear HO_4
      clear BK131
      clear HB
      have HO_4 := n0_
      have BK131 := n1_
      have HB := n2_
      clear n0_ n1_ n2_
      obtain ⟨Ao38, co38, eo38⟩ := Kd.R_slice HO_4.out
      (first | subst eo38 | (injection eo38 with f1_ f2_ f3_; have f4_ := f1_.symm; have f5_ := f3_.symm; clear f1_ f2_ f3_; subst f4_; subst f5_))
      have p137 : 0 ≤ (1 : Int) := (by omega)
      have q137 : 1 < (t132.length : Int) := zd
      obtain ⟨ad137, e137, hx137_0⟩ := Kd.at_string (z9 HO_4.out).2.2 1 p137 q137
      cases e137
      (try simp only [show (1 : Int).toNat = 1 from rfl, Nat.reduceMul, Nat.reduceEqDiff, Go.Addr.add, ↓reduceIte] at hx137_0)
      have qi137 : (1 < t132.length) = True := eq_true (by omega)
      (try rw [show ((1 : Int)).toNat = 1 from rfl] at hx137_0)
      replace p137 := eq_true p137
      replace q137 := eq_true q137
      have p139 : 0 ≤ (2 : Int) := (by omega)
      have q139 : 2 < (t132.length : Int) := zd
      obtain ⟨ad139, e139, hx139_0⟩ := Kd.at_string (z9 HO_4.out).2.2 2 p139 q139
      obtain rfl : ad137 = ad139 := (by injection e139)
      (try simp only [show (2 : Int).toNat = 2 from rfl, Nat.reduceMul, Nat.reduceEqDiff, Go.Addr.add, ↓reduceIte] at hx139_0)
      have qi139 : (2 < t132.length) = True := eq_true (by omega)
      (try rw [show ((2 : Int)).toNat = 2 from rfl] at hx139_0)
      replace p139 := eq_true p139
      replace q139 := eq_true q139
      have p141 : 0 ≤ (3 : Int) := (by omega)
      have q141 : 3 < (t132.length : Int) := zd
      obtain ⟨ad141, e141, hx141_0⟩ := Kd.at_string (z9 HO_4.out).2.2 3 p141 q141
      obtain rfl : ad137 = ad141 := (by injection e141)
      (try simp only [show (3 : Int).toNat = 3 from rfl, Nat.reduceMul, Nat.reduceEqDiff, Go.Addr.add, ↓reduceIte] at hx141_0)
      have qi141 : (3 < t132.length) = True := eq_true (by omega)
      (try rw [show ((3 : Int)).toNat = 3 from rfl] at hx141_0)
      replace p141 := eq_true p141
      replace q141 := eq_true q141
      refine start_ (n := 15) (S := fun w' => w'.cell? ⟨ad137.block, ad137.off + 1, none⟩ = some (.string (rdOf ByteArray.empty t132 1)) ∧ w'.cell? ⟨ad137.block, ad137.off + 2, none⟩ = some (.string (rdOf ByteArray.empty t132 2)) ∧ w'.cell? ⟨ad137.block, ad137.off + 3, none⟩ = some (.string (rdOf ByteArray.empty t132 3))) (ds := []) #[false, false, false, false, false, false, false, false, false, false, false, false, false, false, false] (by kernel_rfl) rfl rfl ⟨hx137_0, hx139_0, hx141_0⟩ (fun hHeld => ?_); refine with_tabW spec_l06Head.tab4 spec_l06Head.bits4 (fun HT_ HW_ => ?_)
      generalize wc.drew = w37 at HO_4 BK131 HB hx137_0 hx139_0 hx141_0 hHeld ⊢
      refine pure_ (i := 0) (N := some 26) (v := ?_) (a' := ?_) #[true, false, false, false, false, false, false, false, false, false, false, false, false, false, false] rfl rfl (any_of HT_.out (by kernel_rfl)) (fun _ _ _ h => h) (Or.inl ⟨by rfl, ?_⟩) ?_ ?_
      rotate_left
      ·intro w'
       go_simp
       with_reducible rfl
      rotate_left
      ·exact zu
      refine pure_ (i := 1) (N := some 27) (v := ?_) (a' := ?_) #[true, true, false, false, false, false, false, false, false, false, false, false, false, false, false] rfl rfl (any_of HT_.out (by kernel_rfl)) (fun _ _ _ h => h) (Or.inl ⟨by rfl, ?_⟩) ?_ ?_
      rotate_left
      ·intro w'
       go_simp
       with_reducible rfl
      rotate_left
      ·exact zu
      refine pure_ (i := 4) (N := some 30) (v := ?_) (a' := ?_) #[true, true, false, false, true, false, false, false, false, false, false, false, false, false, false] rfl rfl (any_of HT_.out (by kernel_rfl)) (fun _ _ _ h => h) (Or.inl ⟨by rfl, ?_⟩) ?_ ?_
      rotate_left
      ·intro w'
       go_simp
       with_reducible rfl
      rotate_left
      ·exact zu
      refine pure_ (i := 5) (N := some 31) (v := ?_) (a' := ?_) #[true, true, false, false, true, true, false, false, false, false, false, false, false, false, false] rfl rfl (any_of HT_.out (by kernel_rfl)) (fun _ _ _ h => h) (Or.inl ⟨by rfl, ?_⟩) ?_ ?_
      rotate_left
      ·intro w'
       go_simp
       with_reducible rfl
      rotate_left
      ·exact zu
      refine pure_ (i := 8) (N := some 34) (v := ?_) (a' := ?_) #[true, true, false, false, true, true, false, false, true, false, false, false, false, false, false] rfl rfl (any_of HT_.out (by kernel_rfl)) (fun _ _ _ h => h) (Or.inl ⟨by rfl, ?_⟩) ?_ ?_
      rotate_left
      ·intro w'
       go_simp
       with_reducible rfl
      rotate_left
      ·exact zu
      refine pure_ (i := 9) (N := some 35) (v := ?_) (a' := ?_) #[true, true, false, false, true, true, false, false, true, true, false, false, false, false, false] rfl rfl (any_of HT_.out (by kernel_rfl)) (fun _ _ _ h => h) (Or.inl ⟨by rfl, ?_⟩) ?_ ?_
      rotate_left
      ·intro w'
       go_simp
       with_reducible rfl
      rotate_left
      ·exact zu
      refine take_ (i := 2) (N := some 28) (v := ?_) (a' := ?_) #[true, true, true, false, true, true, false, false, true, true, false, false, false, false, false] rfl rfl (take_ofW HT_.out HW_.out (by kernel_rfl)) (fun _ _ _ h => h) (Or.inl ⟨by rfl, ?_⟩) hHeld ?_ ?_
      rotate_left
      ·rintro w' ⟨s0, s1, s2⟩
       go_simp
       with_reducible rfl
      rotate_left
      ·exact zu
      refine take_ (i := 6) (N := some 32) (v := ?_) (a' := ?_) #[true, true, true, false, true, true, true, false, true, true, false, false, false, false, false] rfl rfl (take_ofW HT_.out HW_.out (by kernel_rfl)) (fun _ _ _ h => h) (Or.inl ⟨by rfl, ?_⟩) hHeld ?_ ?_
      rotate_left
      ·rintro w' ⟨s0, s1, s2⟩
       go_simp
       with_reducible rfl
      rotate_left
      ·exact zu
      refine take_ (i := 10) (N := some 36) (v := ?_) (a' := ?_) #[true, true, true, false, true, true, true, false, true, true, true, false, false, false, false] rfl rfl (take_ofW HT_.out HW_.out (by kernel_rfl)) (fun _ _ _ h => h) (Or.inl ⟨by rfl, ?_⟩) hHeld ?_ ?_
      rotate_left
      ·rintro w' ⟨s0, s1, s2⟩
       go_simp
       with_reducible rfl
      rotate_left
      ·exact zu
      refine join_ (σ := Nat) 1 #[true, true, true, true, true, true, true, true, true, true, true, true, true, true, false] (fun s_ => [(29, .int .i64 t138), (33, .int .i64 t140), (37, .int .i64 t142), (6, .pointer (some ⟨s_, 0, none⟩)), (38, .agg #[.int .i64 t138, .int .i64 t140, .int .i64 t142])]) (fun s_ w' => (w'.cell? ⟨ad137.block, ad137.off + 1, none⟩ = some (.string (rdOf ByteArray.empty t132 1)) ∧ w'.cell? ⟨ad137.block, ad137.off + 2, none⟩ = some (.string (rdOf ByteArray.empty t132 2)) ∧ w'.cell? ⟨ad137.block, ad137.off + 3, none⟩ = some (.string (rdOf ByteArray.empty t132 3))) ∧ (Kd.R Kd.string 9 w' w.heap.size (fun _ => True) (.slice (some ad137) t132.length co38) t132) ∧ (w'.heap[gb131]? = some (.cells #[.int .i64 0, .int .i64 0, .int .i64 0] 31 (0, 0))) ∧ (w'.heap[s_]? = some (.cells #[.int .i64 0, .int .i64 0, .int .i64 0] 31 (0, 0))) ∧ (w.heap.size ≤ s_) ∧ (w.heap.size ≤ s_) ∧ (gb131 ≠ s_) ∧ (s_ ≠ gb131) ∧ (Below w.heap.size w w')) ?_ ?_
      rotate_left
      ·intro hCont
       refine two_ (i := 3) (j := 13) (Ni := some 29) (Nj := some 6) #[true, true, true, true, true, true, true, false, true, true, true, false, false, false, false] #[true, true, true, false, true, true, true, false, true, true, true, false, false, true, false] rfl rfl rfl rfl (two_of HT_.out (by kernel_rfl)) (by decide) (by decide) (fun K hK => ?_) (fun K hK => ?_)
       ·skip
        refine goes_ Tryz.func22 (by kernel_rfl) rfl #[.string (rdOf ByteArray.empty t132 1)] (by rfl) rfl rfl zg ?_
        with_reducible refine (spec_l04Number.calls kj2 (rdOf ByteArray.empty t132 1) t138 _ A14.out).mono ?_
        rintro e w' ⟨rfl, ⟨nd, rfl⟩⟩
        refine ⟨_, rfl, ?_⟩
        refine hK.out _ _ ⟨hHeld.1, hHeld.2.1, hHeld.2.2⟩ (fun hHeld => ?_)
        clear hK K
        refine norm_ (a' := ?_) ?_ ?_
        rotate_left
        ·show Act.put _ (some 29) _ = _
         exact zu
        refine two_ (i := 7) (j := 13) (Ni := some 33) (Nj := some 6) #[true, true, true, true, true, true, true, true, true, true, true, false, false, false, false] #[true, true, true, true, true, true, true, false, true, true, true, false, false, true, false] rfl rfl rfl rfl (two_of HT_.out (by kernel_rfl)) (by decide) (by decide) (fun K hK => ?_) (fun K hK => ?_)
        ·skip
         refine goes_ Tryz.func22 (by kernel_rfl) rfl #[.string (rdOf ByteArray.empty t132 2)] (by rfl) rfl rfl zg ?_
         with_reducible refine (spec_l04Number.calls kj2 (rdOf ByteArray.empty t132 2) t140 _ A16.out).mono ?_
         rintro e w' ⟨rfl, ⟨nd, rfl⟩⟩
         refine ⟨_, rfl, ?_⟩
         refine hK.out _ _ ⟨hHeld.1, hHeld.2.1, hHeld.2.2⟩ (fun hHeld => ?_)
         clear hK K
         refine norm_ (a' := ?_) ?_ ?_
         rotate_left
         ·show Act.put _ (some 33) _ = _
          exact zu
         refine two_ (i := 11) (j := 13) (Ni := some 37) (Nj := some 6) #[true, true, true, true, true, true, true, true, true, true, true, true, false, false, false] #[true, true, true, true, true, true, true, true, true, true, true, false, false, true, false] rfl rfl rfl rfl (two_of HT_.out (by kernel_rfl)) (by decide) (by decide) (fun K hK => ?_) (fun K hK => ?_)
         ·skip
          refine goes_ Tryz.func22 (by kernel_rfl) rfl #[.string (rdOf ByteArray.empty t132 3)] (by rfl) rfl rfl zg ?_
          with_reducible refine (spec_l04Number.calls kj2 (rdOf ByteArray.empty t132 3) t142 _ A18.out).mono ?_
          rintro e w' ⟨rfl, ⟨nd, rfl⟩⟩
          refine ⟨_, rfl, ?_⟩
          refine hK.out _ _ ⟨hHeld.1, hHeld.2.1, hHeld.2.2⟩ (fun hHeld => ?_)
          clear hK K
          refine norm_ (a' := ?_) ?_ ?_
          rotate_left
          ·show Act.put _ (some 37) _ = _
           exact zu
          refine pure_ (i := 12) (N := some 38) (v := ?_) (a' := ?_) #[true, true, true, true, true, true, true, true, true, true, true, true, true, false, false] rfl rfl (any_of HT_.out (by kernel_rfl)) (fun _ _ _ h => h) (Or.inl ⟨by rfl, ?_⟩) ?_ ?_
          rotate_left
          ·intro w'
           go_simp
           with_reducible rfl
          rotate_left
          ·exact zu
          refine one_ (i := 13) (N := some 6) #[true, true, true, true, true, true, true, true, true, true, true, true, true, true, false] rfl rfl (one_of HT_.out (by kernel_rfl)) (by decide) (fun K hK => ?_)
          refine box_step ?hg (N := 6) ?hd (cs := #[.int .i64 0, .int .i64 0, .int .i64 0]) (t := 31) ?hr ?_; (case hd => rfl); (case hg => rfl); (case hr => first | (go_simp; done) | (go_simp; rfl))
          intro gb143 hg w39 hbox hb
          have HS0_ := (hb.cell (zm _ _ (hHeld.1))).trans (hHeld.1)
          have HS1_ := (hb.cell (zm _ _ (hHeld.2.1))).trans (hHeld.2.1)
          have HS2_ := (hb.cell (zm _ _ (hHeld.2.2))).trans (hHeld.2.2)
          have n0_ := zM (ze (by (with_reducible repeat (first | apply zI | apply zJ | apply zK)); exact HO_4.out) hb)
          have n1_ := zM (z7 (g := gb131) (o := .cells #[.int .i64 0, .int .i64 0, .int .i64 0] 31 (0, 0)) zk hb)
          have n2_ := zM (zQ zb hb)
          have n3_ := zM (hbox)
          have n4_ := zM ((by rw [hg]; exact (zR zb) : w.heap.size ≤ gb143))
          have n5_ := zM ((by rw [hg]; exact (zR zb) : w.heap.size ≤ gb143))
          have n6_ := zM ((by rw [hg]; exact Nat.ne_of_lt (blk_lt (g := gb131) (o := .cells #[.int .i64 0, .int .i64 0, .int .i64 0] 31 (0, 0)) zk) : gb131 ≠ gb143))
          have n7_ := zM ((by rw [hg]; exact Nat.ne_of_gt (blk_lt (g := gb131) (o := .cells #[.int .i64 0, .int .i64 0, .int .i64 0] 31 (0, 0)) zk) : gb143 ≠ gb131))
          clear HO_4
          clear BK131
          clear HB
          have HO_4 := n0_
          have BK131 := n1_
          have HB := n2_
          have BK143 := n3_
          have GW143 := n4_
          have GE143 := n5_
          have NB131_143 := n6_
          have NB143_131 := n7_
          clear n0_ n1_ n2_ n3_ n4_ n5_ n6_ n7_
          clear hb hbox hg
          refine hK.out _ _ ⟨HS0_, HS1_, HS2_⟩ (fun hHeld => ?_)
          clear hK K
          refine norm_ (a' := ?_) ?_ ?_
          rotate_left
          ·show Act.put _ (some 6) _ = _
           exact zu
          exact norm_ (by simp only [putAll, Act.put, List.setIfInBounds_toArray, List.set_cons_zero, List.set_cons_succ]) (hCont (gb143) _ ⟨hHeld, (by (with_reducible repeat (first | apply zI | apply zJ | apply zK)); exact HO_4.out), zk, zk, GW143.out, GE143.out, NB131_143.out, NB143_131.out, zb⟩)
         skip
         refine box_step ?hg (N := 6) ?hd (cs := #[.int .i64 0, .int .i64 0, .int .i64 0]) (t := 31) ?hr ?_; (case hd => rfl); (case hg => rfl); (case hr => first | (go_simp; done) | (go_simp; rfl))
         intro gb143 hg w39 hbox hb
         have HS0_ := (hb.cell (zm _ _ (hHeld.1))).trans (hHeld.1)
         have HS1_ := (hb.cell (zm _ _ (hHeld.2.1))).trans (hHeld.2.1)
         have HS2_ := (hb.cell (zm _ _ (hHeld.2.2))).trans (hHeld.2.2)
         have n0_ := zM (ze (by (with_reducible repeat (first | apply zI | apply zJ | apply zK)); exact HO_4.out) hb)
         have n1_ := zM (z7 (g := gb131) (o := .cells #[.int .i64 0, .int .i64 0, .int .i64 0] 31 (0, 0)) zk hb)
         have n2_ := zM (zQ zb hb)
         have n3_ := zM (hbox)
         have n4_ := zM ((by rw [hg]; exact (zR zb) : w.heap.size ≤ gb143))
         have n5_ := zM ((by rw [hg]; exact (zR zb) : w.heap.size ≤ gb143))
         have n6_ := zM ((by rw [hg]; exact Nat.ne_of_lt (blk_lt (g := gb131) (o := .cells #[.int .i64 0, .int .i64 0, .int .i64 0] 31 (0, 0)) zk) : gb131 ≠ gb143))
         have n7_ := zM ((by rw [hg]; exact Nat.ne_of_gt (blk_lt (g := gb131) (o := .cells #[.int .i64 0, .int .i64 0, .int .i64 0] 31 (0, 0)) zk) : gb143 ≠ gb131))
         clear HO_4
         clear BK131
         clear HB
         have HO_4 := n0_
         have BK131 := n1_
         have HB := n2_
         have BK143 := n3_
         have GW143 := n4_
         have GE143 := n5_
         have NB131_143 := n6_
         have NB143_131 := n7_
         clear n0_ n1_ n2_ n3_ n4_ n5_ n6_ n7_
         clear hb hbox hg
         refine hK.out _ _ ⟨HS0_, HS1_, HS2_⟩ (fun hHeld => ?_)
         clear hK K
         refine norm_ (a' := ?_) ?_ ?_
         rotate_left
         ·show Act.put _ (some 6) _ = _
          exact zu
         refine one_ (i := 11) (N := some 37) #[true, true, true, true, true, true, true, true, true, true, true, true, false, true, false] rfl rfl (one_of HT_.out (by kernel_rfl)) (by decide) (fun K hK => ?_)
         refine goes_ Tryz.func22 (by kernel_rfl) rfl #[.string (rdOf ByteArray.empty t132 3)] (by rfl) rfl rfl zg ?_
         with_reducible refine (spec_l04Number.calls kj2 (rdOf ByteArray.empty t132 3) t142 _ A18.out).mono ?_
         rintro e w' ⟨rfl, ⟨nd, rfl⟩⟩
         refine ⟨_, rfl, ?_⟩
         refine hK.out _ _ ⟨hHeld.1, hHeld.2.1, hHeld.2.2⟩ (fun hHeld => ?_)
         clear hK K
         refine norm_ (a' := ?_) ?_ ?_
         rotate_left
         ·show Act.put _ (some 37) _ = _
          exact zu
         refine pure_ (i := 12) (N := some 38) (v := ?_) (a' := ?_) #[true, true, true, true, true, true, true, true, true, true, true, true, true, true, false] rfl rfl (any_of HT_.out (by kernel_rfl)) (fun _ _ _ h => h) (Or.inl ⟨by rfl, ?_⟩) ?_ ?_
         rotate_left
         ·intro w'
          go_simp
          with_reducible rfl
         rotate_left
         ·exact zu
         exact norm_ (by simp only [putAll, Act.put, List.setIfInBounds_toArray, List.set_cons_zero, List.set_cons_succ]) (hCont (gb143) _ ⟨hHeld, (by (with_reducible repeat (first | apply zI | apply zJ | apply zK)); exact HO_4.out), zk, zk, GW143.out, GE143.out, NB131_143.out, NB143_131.out, zb⟩)
        skip
        refine box_step ?hg (N := 6) ?hd (cs := #[.int .i64 0, .int .i64 0, .int .i64 0]) (t := 31) ?hr ?_; (case hd => rfl); (case hg => rfl); (case hr => first | (go_simp; done) | (go_simp; rfl))
        intro gb143 hg w39 hbox hb
        have HS0_ := (hb.cell (zm _ _ (hHeld.1))).trans (hHeld.1)
        have HS1_ := (hb.cell (zm _ _ (hHeld.2.1))).trans (hHeld.2.1)
        have HS2_ := (hb.cell (zm _ _ (hHeld.2.2))).trans (hHeld.2.2)
        have n0_ := zM (ze (by (with_reducible repeat (first | apply zI | apply zJ | apply zK)); exact HO_4.out) hb)
        have n1_ := zM (z7 (g := gb131) (o := .cells #[.int .i64 0, .int .i64 0, .int .i64 0] 31 (0, 0)) zk hb)
        have n2_ := zM (zQ zb hb)
        have n3_ := zM (hbox)
        have n4_ := zM ((by rw [hg]; exact (zR zb) : w.heap.size ≤ gb143))
        have n5_ := zM ((by rw [hg]; exact (zR zb) : w.heap.size ≤ gb143))
        have n6_ := zM ((by rw [hg]; exact Nat.ne_of_lt (blk_lt (g := gb131) (o := .cells #[.int .i64 0, .int .i64 0, .int .i64 0] 31 (0, 0)) zk) : gb131 ≠ gb143))
        have n7_ := zM ((by rw [hg]; exact Nat.ne_of_gt (blk_lt (g := gb131) (o := .cells #[.int .i64 0, .int .i64 0, .int .i64 0] 31 (0, 0)) zk) : gb143 ≠ gb131))
        clear HO_4
        clear BK131
        clear HB
        have HO_4 := n0_
        have BK131 := n1_
        have HB := n2_
        have BK143 := n3_
        have GW143 := n4_
        have GE143 := n5_
        have NB131_143 := n6_
        have NB143_131 := n7_
        clear n0_ n1_ n2_ n3_ n4_ n5_ n6_ n7_
        clear hb hbox hg
        refine hK.out _ _ ⟨HS0_, HS1_, HS2_⟩ (fun hHeld => ?_)
        clear hK K
        refine norm_ (a' := ?_) ?_ ?_
        rotate_left
        ·show Act.put _ (some 6) _ = _
         exact zu
        refine one_ (i := 7) (N := some 33) #[true, true, true, true, true, true, true, true, true, true, true, false, false, true, false] rfl rfl (one_of HT_.out (by kernel_rfl)) (by decide) (fun K hK => ?_)
        refine goes_ Tryz.func22 (by kernel_rfl) rfl #[.string (rdOf ByteArray.empty t132 2)] (by rfl) rfl rfl zg ?_
        with_reducible refine (spec_l04Number.calls kj2 (rdOf ByteArray.empty t132 2) t140 _ A16.out).mono ?_
        rintro e w' ⟨rfl, ⟨nd, rfl⟩⟩
        refine ⟨_, rfl, ?_⟩
        refine hK.out _ _ ⟨hHeld.1, hHeld.2.1, hHeld.2.2⟩ (fun hHeld => ?_)
        clear hK K
        refine norm_ (a' := ?_) ?_ ?_
        rotate_left
        ·show Act.put _ (some 33) _ = _
         exact zu
        refine one_ (i := 11) (N := some 37) #[true, true, true, true, true, true, true, true, true, true, true, true, false, true, false] rfl rfl (one_of HT_.out (by kernel_rfl)) (by decide) (fun K hK => ?_)
        refine goes_ Tryz.func22 (by kernel_rfl) rfl #[.string (rdOf ByteArray.empty t132 3)] (by rfl) rfl rfl zg ?_
        with_reducible refine (spec_l04Number.calls kj2 (rdOf ByteArray.empty t132 3) t142 _ A18.out).mono ?_
        rintro e w' ⟨rfl, ⟨nd, rfl⟩⟩
        refine ⟨_, rfl, ?_⟩
        refine hK.out _ _ ⟨hHeld.1, hHeld.2.1, hHeld.2.2⟩ (fun hHeld => ?_)
        clear hK K
        refine norm_ (a' := ?_) ?_ ?_
        rotate_left
        ·show Act.put _ (some 37) _ = _
         exact zu
        refine pure_ (i := 12) (N := some 38) (v := ?_) (a' := ?_) #[true, true, true, true, true, true, true, true, true, true, true, true, true, true, false] rfl rfl (any_of HT_.out (by kernel_rfl)) (fun _ _ _ h => h) (Or.inl ⟨by rfl, ?_⟩) ?_ ?_
        rotate_left
        ·intro w'
         go_simp
         with_reducible rfl
        rotate_left
        ·exact zu
        exact norm_ (by simp only [putAll, Act.put, List.setIfInBounds_toArray, List.set_cons_zero, List.set_cons_succ]) (hCont (gb143) _ ⟨hHeld, (by (with_reducible repeat (first | apply zI | apply zJ | apply zK)); exact HO_4.out), zk, zk, GW143.out, GE143.out, NB131_143.out, NB143_131.out, zb⟩)
       skip
       refine box_step ?hg (N := 6) ?hd (cs := #[.int .i64 0, .int .i64 0, .int .i64 0]) (t := 31) ?hr ?_; (case hd => rfl); (case hg => rfl); (case hr => first | (go_simp; done) | (go_simp; rfl))
       intro gb143 hg w39 hbox hb
       have HS0_ := (hb.cell (zm _ _ (hHeld.1))).trans (hHeld.1)
       have HS1_ := (hb.cell (zm _ _ (hHeld.2.1))).trans (hHeld.2.1)
       have HS2_ := (hb.cell (zm _ _ (hHeld.2.2))).trans (hHeld.2.2)
       have n0_ := zM (ze (by (with_reducible repeat (first | apply zI | apply zJ | apply zK)); exact HO_4.out) hb)
       have n1_ := zM (z7 (g := gb131) (o := .cells #[.int .i64 0, .int .i64 0, .int .i64 0] 31 (0, 0)) zk hb)
       have n2_ := zM (zQ zb hb)
       have n3_ := zM (hbox)
       have n4_ := zM ((by rw [hg]; exact (zR zb) : w.heap.size ≤ gb143))
       have n5_ := zM ((by rw [hg]; exact (zR zb) : w.heap.size ≤ gb143))
       have n6_ := zM ((by rw [hg]; exact Nat.ne_of_lt (blk_lt (g := gb131) (o := .cells #[.int .i64 0, .int .i64 0, .int .i64 0] 31 (0, 0)) zk) : gb131 ≠ gb143))
       have n7_ := zM ((by rw [hg]; exact Nat.ne_of_gt (blk_lt (g := gb131) (o := .cells #[.int .i64 0, .int .i64 0, .int .i64 0] 31 (0, 0)) zk) : gb143 ≠ gb131))
       clear HO_4
       clear BK131
       clear HB
       have HO_4 := n0_
       have BK131 := n1_
       have HB := n2_
       have BK143 := n3_
       have GW143 := n4_
       have GE143 := n5_
       have NB131_143 := n6_
       have NB143_131 := n7_
       clear n0_ n1_ n2_ n3_ n4_ n5_ n6_ n7_
       clear hb hbox hg
       refine hK.out _ _ ⟨HS0_, HS1_, HS2_⟩ (fun hHeld => ?_)
       clear hK K
       refine norm_ (a' := ?_) ?_ ?_
       rotate_left
       ·show Act.put _ (some 6) _ = _
        exact zu
       refine one_ (i := 3) (N := some 29) #[true, true, true, true, true, true, true, false, true, true, true, false, false, true, false] rfl rfl (one_of HT_.out (by kernel_rfl)) (by decide) (fun K hK => ?_)
       refine goes_ Tryz.func22 (by kernel_rfl) rfl #[.string (rdOf ByteArray.empty t132 1)] (by rfl) rfl rfl zg ?_
       with_reducible refine (spec_l04Number.calls kj2 (rdOf ByteArray.empty t132 1) t138 _ A14.out).mono ?_
       rintro e w' ⟨rfl, ⟨nd, rfl⟩⟩
       refine ⟨_, rfl, ?_⟩
       refine hK.out _ _ ⟨hHeld.1, hHeld.2.1, hHeld.2.2⟩ (fun hHeld => ?_)
       clear hK K
       refine norm_ (a' := ?_) ?_ ?_
       rotate_left
       ·show Act.put _ (some 29) _ = _
        exact zu
       refine one_ (i := 7) (N := some 33) #[true, true, true, true, true, true, true, true, true, true, true, false, false, true, false] rfl rfl (one_of HT_.out (by kernel_rfl)) (by decide) (fun K hK => ?_)
       refine goes_ Tryz.func22 (by kernel_rfl) rfl #[.string (rdOf ByteArray.empty t132 2)] (by rfl) rfl rfl zg ?_
       with_reducible refine (spec_l04Number.calls kj2 (rdOf ByteArray.empty t132 2) t140 _ A16.out).mono ?_
       rintro e w' ⟨rfl, ⟨nd, rfl⟩⟩
       refine ⟨_, rfl, ?_⟩
       refine hK.out _ _ ⟨hHeld.1, hHeld.2.1, hHeld.2.2⟩ (fun hHeld => ?_)
       clear hK K
       refine norm_ (a' := ?_) ?_ ?_
       rotate_left
       ·show Act.put _ (some 33) _ = _
        exact zu
       refine one_ (i := 11) (N := some 37) #[true, true, true, true, true, true, true, true, true, true, true, true, false, true, false] rfl rfl (one_of HT_.out (by kernel_rfl)) (by decide) (fun K hK => ?_)
       refine goes_ Tryz.func22 (by kernel_rfl) rfl #[.string (rdOf ByteArray.empty t132 3)] (by rfl) rfl rfl zg ?_
       with_reducible refine (spec_l04Number.calls kj2 (rdOf ByteArray.empty t132 3) t142 _ A18.out).mono ?_
       rintro e w' ⟨rfl, ⟨nd, rfl⟩⟩
       refine ⟨_, rfl, ?_⟩
       refine hK.out _ _ ⟨hHeld.1, hHeld.2.1, hHeld.2.2⟩ (fun hHeld => ?_)
       clear hK K
       refine norm_ (a' := ?_) ?_ ?_
       rotate_left
       ·show Act.put _ (some 37) _ = _
        exact zu
       refine pure_ (i := 12) (N := some 38) (v := ?_) (a' := ?_) #[true, true, true, true, true, true, true, true, true, true, true, true, true, true, false] rfl rfl (any_of HT_.out (by kernel_rfl)) (fun _ _ _ h => h) (Or.inl ⟨by rfl, ?_⟩) ?_ ?_
       rotate_left
       ·intro w'
        go_simp
        with_reducible rfl
       rotate_left
       ·exact zu
       exact norm_ (by simp only [putAll, Act.put, List.setIfInBounds_toArray, List.set_cons_zero, List.set_cons_succ]) (hCont (gb143) _ ⟨hHeld, (by (with_reducible repeat (first | apply zI | apply zJ | apply zK)); exact HO_4.out), zk, zk, GW143.out, GE143.out, NB131_143.out, NB143_131.out, zb⟩)
      rintro gb143 w40 ⟨hS_, h0_, h1_, h2_, h3_, h4_, h5_, h6_, h7_⟩
      have n0_ : Aside0 (Kd.R Kd.string 9 w40 w.heap.size (fun _ => True) (.slice (some ad137) t132.length co38) t132) := ⟨h0_⟩
      have n1_ : Aside0 (w40.heap[gb131]? = some (.cells #[.int .i64 0, .int .i64 0, .int .i64 0] 31 (0, 0))) := ⟨h1_⟩
      have n2_ : Aside0 (w40.heap[gb143]? = some (.cells #[.int .i64 0, .int .i64 0, .int .i64 0] 31 (0, 0))) := ⟨h2_⟩
      have n3_ : Aside0 (w.heap.size ≤ gb143) := ⟨h3_⟩
      have n4_ : Aside0 (w.heap.size ≤ gb143) := ⟨h4_⟩
      have n5_ : Aside0 (gb131 ≠ gb143) := ⟨h5_⟩
      have n6_ : Aside0 (gb143 ≠ gb131) := ⟨h6_⟩
      have n7_ : Aside0 (Below w.heap.size w w40) := ⟨h7_⟩
      clear HO_4
      clear BK131
      clear HB
      clear h0_ h1_ h2_ h3_ h4_ h5_ h6_ h7_
      have HO_4 := n0_
      have BK131 := n1_
      have BK143 := n2_
      have GW143 := n3_
      have GE143 := n4_
      have NB131_143 := n5_
      have NB143_131 := n6_
      have HB := n7_
      clear n0_ n1_ n2_ n3_ n4_ n5_ n6_ n7_
      have hHeld : w40.cell? ⟨ad137.block, ad137.off + 1, none⟩ = some (.string (rdOf ByteArray.empty t132 1)) ∧ w40.cell? ⟨ad137.block, ad137.off + 2, none⟩ = some (.string (rdOf ByteArray.empty t132 2)) ∧ w40.cell? ⟨ad137.block, ad137.off + 3, none⟩ = some (.string (rdOf ByteArray.empty t132 3)) := hS_
      refine norm_ (a' := ?_) ?_ ?_
      rotate_left
      ·simp only [putAll, Act.put, List.setIfInBounds_toArray, List.set_cons_zero, List.set_cons_succ]
       rfl
      refine one_ (i := 14) (N := none) #[true, true, true, true, true, true, true, true, true, true, true, true, true, true, true] rfl rfl (one_of HT_.out (by kernel_rfl)) (by decide) (fun K hK => ?_)
      have hs41 : w40.cell? ⟨gb143, 0, none⟩ = some (.int .i64 0) := (z5 BK143.out 0).trans rfl
      have hfs41 := z6 BK143.out 0
      have hns41_0 := NB131_143.out
      have hms41_0 := NB143_131.out
      have hs42 : w40.cell? ⟨gb143, 1, none⟩ = some (.int .i64 0) := (z5 BK143.out 1).trans rfl
      have hfs42 := z6 BK143.out 1
      have hns42_0 := NB131_143.out
      have hms42_0 := NB143_131.out
      have hs43 : w40.cell? ⟨gb143, 2, none⟩ = some (.int .i64 0) := (z5 BK143.out 2).trans rfl
      have hfs43 := z6 BK143.out 2
      have hns43_0 := NB131_143.out
      have hms43_0 := NB143_131.out
      refine skip_ (w1 := ?_) (by rfl) rfl ?_ ?_
      rotate_left
      ·go_simp
       rfl
      refine hK.out _ _ ⟨((cell_far (p := ⟨gb143, _, none⟩) (by first | exact Kd.own_blk (Kd.R_ne HO_4.out BK143.out (by decide)) | (rw [add_block]; exact Kd.own_blk (Kd.R_ne HO_4.out BK143.out (by decide))) | (show (Addr.add _ _).block ≠ _; rw [add_block]; exact Kd.own_blk (Kd.R_ne HO_4.out BK143.out (by decide))) | (dsimp only; exact Kd.own_blk (Kd.R_ne HO_4.out BK143.out (by decide)))) _).trans (((cell_far (p := ⟨gb143, _, none⟩) (by first | exact Kd.own_blk (Kd.R_ne HO_4.out BK143.out (by decide)) | (rw [add_block]; exact Kd.own_blk (Kd.R_ne HO_4.out BK143.out (by decide))) | (show (Addr.add _ _).block ≠ _; rw [add_block]; exact Kd.own_blk (Kd.R_ne HO_4.out BK143.out (by decide))) | (dsimp only; exact Kd.own_blk (Kd.R_ne HO_4.out BK143.out (by decide)))) _).trans (((cell_far (p := ⟨gb143, _, none⟩) (by first | exact Kd.own_blk (Kd.R_ne HO_4.out BK143.out (by decide)) | (rw [add_block]; exact Kd.own_blk (Kd.R_ne HO_4.out BK143.out (by decide))) | (show (Addr.add _ _).block ≠ _; rw [add_block]; exact Kd.own_blk (Kd.R_ne HO_4.out BK143.out (by decide))) | (dsimp only; exact Kd.own_blk (Kd.R_ne HO_4.out BK143.out (by decide)))) _).trans (hHeld.1)))))), ((cell_far (p := ⟨gb143, _, none⟩) (by first | exact Kd.own_blk (Kd.R_ne HO_4.out BK143.out (by decide)) | (rw [add_block]; exact Kd.own_blk (Kd.R_ne HO_4.out BK143.out (by decide))) | (show (Addr.add _ _).block ≠ _; rw [add_block]; exact Kd.own_blk (Kd.R_ne HO_4.out BK143.out (by decide))) | (dsimp only; exact Kd.own_blk (Kd.R_ne HO_4.out BK143.out (by decide)))) _).trans (((cell_far (p := ⟨gb143, _, none⟩) (by first | exact Kd.own_blk (Kd.R_ne HO_4.out BK143.out (by decide)) | (rw [add_block]; exact Kd.own_blk (Kd.R_ne HO_4.out BK143.out (by decide))) | (show (Addr.add _ _).block ≠ _; rw [add_block]; exact Kd.own_blk (Kd.R_ne HO_4.out BK143.out (by decide))) | (dsimp only; exact Kd.own_blk (Kd.R_ne HO_4.out BK143.out (by decide)))) _).trans (((cell_far (p := ⟨gb143, _, none⟩) (by first | exact Kd.own_blk (Kd.R_ne HO_4.out BK143.out (by decide)) | (rw [add_block]; exact Kd.own_blk (Kd.R_ne HO_4.out BK143.out (by decide))) | (show (Addr.add _ _).block ≠ _; rw [add_block]; exact Kd.own_blk (Kd.R_ne HO_4.out BK143.out (by decide))) | (dsimp only; exact Kd.own_blk (Kd.R_ne HO_4.out BK143.out (by decide)))) _).trans (hHeld.2.1)))))), ((cell_far (p := ⟨gb143, _, none⟩) (by first | exact Kd.own_blk (Kd.R_ne HO_4.out BK143.out (by decide)) | (rw [add_block]; exact Kd.own_blk (Kd.R_ne HO_4.out BK143.out (by decide))) | (show (Addr.add _ _).block ≠ _; rw [add_block]; exact Kd.own_blk (Kd.R_ne HO_4.out BK143.out (by decide))) | (dsimp only; exact Kd.own_blk (Kd.R_ne HO_4.out BK143.out (by decide)))) _).trans (((cell_far (p := ⟨gb143, _, none⟩) (by first | exact Kd.own_blk (Kd.R_ne HO_4.out BK143.out (by decide)) | (rw [add_block]; exact Kd.own_blk (Kd.R_ne HO_4.out BK143.out (by decide))) | (show (Addr.add _ _).block ≠ _; rw [add_block]; exact Kd.own_blk (Kd.R_ne HO_4.out BK143.out (by decide))) | (dsimp only; exact Kd.own_blk (Kd.R_ne HO_4.out BK143.out (by decide)))) _).trans (((cell_far (p := ⟨gb143, _, none⟩) (by first | exact Kd.own_blk (Kd.R_ne HO_4.out BK143.out (by decide)) | (rw [add_block]; exact Kd.own_blk (Kd.R_ne HO_4.out BK143.out (by decide))) | (show (Addr.add _ _).block ≠ _; rw [add_block]; exact Kd.own_blk (Kd.R_ne HO_4.out BK143.out (by decide))) | (dsimp only; exact Kd.own_blk (Kd.R_ne HO_4.out BK143.out (by decide)))) _).trans (hHeld.2.2))))))⟩ (fun hHeld => ?_)
      clear hK K
      refine done_ (done_of HT_.out (by kernel_rfl)) ?_
      try go_wp2
      have n0_ : Aside0 (Kd.R Kd.string 9 (((w40.setCell ⟨gb143, 0, none⟩ (.int .i64 t138)).setCell ⟨gb143, 1, none⟩ (.int .i64 t140)).setCell ⟨gb143, 2, none⟩ (.int .i64 t142)) w.heap.size (fun _ => True) (.slice (some ad137) t132.length co38) t132) := ⟨by (with_reducible repeat (first | apply zI | apply zJ | apply zK)); exact z1 (zc (p := ⟨gb143, 2, none⟩) (zc (p := ⟨gb143, 1, none⟩) (zc (p := ⟨gb143, 0, none⟩) (Kd.R_types HO_4.out BK143.out (by decide)) (fun _ hk => hk.2) (.int .i64 t138)) (fun _ hk => hk.2) (.int .i64 t140)) (fun _ hk => hk.2) (.int .i64 t142)) (fun _ hk => trivial)⟩
      have n1_ : Aside0 ((((w40.setCell ⟨gb143, 0, none⟩ (.int .i64 t138)).setCell ⟨gb143, 1, none⟩ (.int .i64 t140)).setCell ⟨gb143, 2, none⟩ (.int .i64 t142)).heap[gb131]? = some (.cells #[.int .i64 0, .int .i64 0, .int .i64 0] 31 (0, 0))) := ⟨zl NB131_143.out BK131.out⟩
      have n2_ : Aside0 ((((w40.setCell ⟨gb143, 0, none⟩ (.int .i64 t138)).setCell ⟨gb143, 1, none⟩ (.int .i64 t140)).setCell ⟨gb143, 2, none⟩ (.int .i64 t142)).heap[gb143]? = some (.cells #[.int .i64 t138, .int .i64 t140, .int .i64 t142] 31 (0, 0))) := ⟨by (with_reducible repeat (first | refine zN ?_ _ | refine zO ?_ | refine zP ?_ _)); refine blk_put (cs := #[.int .i64 t138, .int .i64 t140, .int .i64 0]) ?_ 2 _ rfl; (with_reducible repeat (first | refine zN ?_ _ | refine zO ?_ | refine zP ?_ _)); refine blk_put (cs := #[.int .i64 t138, .int .i64 0, .int .i64 0]) ?_ 1 _ rfl; (with_reducible repeat (first | refine zN ?_ _ | refine zO ?_ | refine zP ?_ _)); refine blk_put (cs := #[.int .i64 0, .int .i64 0, .int .i64 0]) ?_ 0 _ rfl; (with_reducible repeat (first | refine zN ?_ _ | refine zO ?_ | refine zP ?_ _)); exact BK143.out⟩
      have n3_ : Aside0 (Below w.heap.size w (((w40.setCell ⟨gb143, 0, none⟩ (.int .i64 t138)).setCell ⟨gb143, 1, none⟩ (.int .i64 t140)).setCell ⟨gb143, 2, none⟩ (.int .i64 t142))) := ⟨zb⟩
      (try clear HO_4)
      (try clear BK131)
      (try clear BK143)
      (try clear HB)
      generalize (((w40.setCell ⟨gb143, 0, none⟩ (.int .i64 t138)).setCell ⟨gb143, 1, none⟩ (.int .i64 t140)).setCell ⟨gb143, 2, none⟩ (.int .i64 t142)) = w44 at n0_ n1_ n2_ n3_ ⊢
      have HO_4 := n0_
      have BK131 := n1_
      have BK143 := n2_
      have HB := n3_
      clear n0_ n1_ n2_ n3_
      have n0_ := zM (zK HO_4.out)
      have n1_ := zM (zO BK131.out)
      have n2_ := zM (zO BK143.out)
      have n3_ := zM (z4 HB.out)
      clear HO_4
      clear BK131
      clear BK143
      clear HB
      have HO_4 := n0_
      have BK131 := n1_
      have BK143 := n2_
      have HB := n3_
      clear n0_ n1_ n2_ n3_
      refine start_ (n := 12) (S := fun w' => w'.cell? ⟨gb143, 0, none⟩ = some (.int .i64 t138) ∧ w'.cell? ⟨gb143, 1, none⟩ = some (.int .i64 t140) ∧ w'.cell? ⟨gb143, 2, none⟩ = some (.int .i64 t142)) (ds := []) #[false, false, false, false, false, false, false, false, false, false, false, false] (by kernel_rfl) rfl rfl ⟨(z5 BK143.out 0).trans rfl, (z5 BK143.out 1).trans rfl, (z5 BK143.out 2).trans rfl⟩ (fun hHeld => ?_); refine with_tabW spec_l06Head.tab5 spec_l06Head.bits5 (fun HT_ HW_ => ?_)
      generalize w44.drew = w45 at HO_4 BK131 BK143 HB hHeld ⊢
      refine take_ (i := 0) (N := some 39) (v := ?_) (a' := ?_) #[true, false, false, false, false, false, false, false, false, false, false, false] rfl rfl (take_ofW HT_.out HW_.out (by kernel_rfl)) (fun _ _ _ h => h) (Or.inl ⟨by rfl, ?_⟩) hHeld ?_ ?_
      rotate_left
      ·rintro w' ⟨s0, s1, s2⟩
       go_simp
       with_reducible rfl
      rotate_left
      ·exact zu
      refine take_ (i := 1) (N := some 40) (v := ?_) (a' := ?_) #[true, true, false, false, false, false, false, false, false, false, false, false] rfl rfl (take_ofW HT_.out HW_.out (by kernel_rfl)) (fun _ _ _ h => h) (Or.inl ⟨by rfl, ?_⟩) hHeld ?_ ?_
      rotate_left
      ·rintro w' ⟨s0, s1, s2⟩
       go_simp
       with_reducible rfl
      rotate_left
      ·exact zu
      refine one_ (i := 2) (N := some 41) #[true, true, true, false, false, false, false, false, false, false, false, false] rfl rfl (one_of HT_.out (by kernel_rfl)) (by decide) (fun K hK => ?_)
      refine goes_ Tryz.func23 (by kernel_rfl) rfl #[.agg #[.int .i64 t138, .int .i64 t140, .int .i64 t142]] (by rfl) rfl rfl zg ?_
      with_reducible refine (spec_ExprOk.calls t138 t140 t142 false _ A19.out).mono ?_
      rintro e w46 ⟨rfl, hb⟩
      refine ⟨_, rfl, ?_⟩
      have n0_ := zM (ze (by (with_reducible repeat (first | apply zI | apply zJ | apply zK)); exact HO_4.out) hb)
      have n1_ := zM (z7 (g := gb131) (o := .cells #[.int .i64 0, .int .i64 0, .int .i64 0] 31 (0, 0)) zk hb)
      have n2_ := zM (z7 (g := gb143) (o := .cells #[.int .i64 t138, .int .i64 t140, .int .i64 t142] 31 (0, 0)) zk hb)
      have n3_ := zM (zQ zb hb)
      clear HO_4
      clear BK131
      clear BK143
      clear HB
      have HO_4 := n0_
      have BK131 := n1_
      have BK143 := n2_
      have HB := n3_
      clear n0_ n1_ n2_ n3_
      (try clear hb)
      (try clear hb2)
      (try clear hk)
      (try clear hi)
      refine hK.out _ _ ⟨(z5 BK143.out 0).trans rfl, (z5 BK143.out 1).trans rfl, (z5 BK143.out 2).trans rfl⟩ (fun hHeld => ?_)
      clear hK K
      refine norm_ (a' := ?_) ?_ ?_
      rotate_left
      ·show Act.put _ (some 41) _ = _
       exact zu
      refine pure_ (i := 3) (N := some 42) (v := ?_) (a' := ?_) #[true, true, true, true, false, false, false, false, false, false, false, false] rfl rfl (any_of HT_.out (by kernel_rfl)) (fun _ _ _ h => h) (Or.inl ⟨by rfl, ?_⟩) ?_ ?_
      rotate_left
      ·intro w'
       go_simp
       with_reducible rfl
      rotate_left
      ·exact zu
      refine pure_ (i := 4) (N := some 43) (v := undef) (a' := ?_) #[true, true, true, true, true, false, false, false, false, false, false, false] rfl rfl (any_of HT_.out (by kernel_rfl)) (fun _ _ _ h => h) (Or.inr ⟨by rfl, rfl⟩) ?_ ?_
      rotate_left
      ·exact zu
      refine pure_ (i := 5) (N := some 44) (v := undef) (a' := ?_) #[true, true, true, true, true, true, false, false, false, false, false, false] rfl rfl (any_of HT_.out (by kernel_rfl)) (fun _ _ _ h => h) (Or.inr ⟨by rfl, rfl⟩) ?_ ?_
      rotate_left
      ·exact zu
      refine pure_ (i := 6) (N := some 45) (v := undef) (a' := ?_) #[true, true, true, true, true, true, true, false, false, false, false, false] rfl rfl (any_of HT_.out (by kernel_rfl)) (fun _ _ _ h => h) (Or.inr ⟨by rfl, rfl⟩) ?_ ?_
      rotate_left
      ·exact zu
      refine pure_ (i := 7) (N := some 46) (v := undef) (a' := ?_) #[true, true, true, true, true, true, true, true, false, false, false, false] rfl rfl (any_of HT_.out (by kernel_rfl)) (fun _ _ _ h => h) (Or.inr ⟨by rfl, rfl⟩) ?_ ?_
      rotate_left
      ·exact zu
      refine pure_ (i := 8) (N := some 47) (v := undef) (a' := ?_) #[true, true, true, true, true, true, true, true, true, false, false, false] rfl rfl (any_of HT_.out (by kernel_rfl)) (fun _ _ _ h => h) (Or.inr ⟨by rfl, rfl⟩) ?_ ?_
      rotate_left
      ·exact zu
      refine pure_ (i := 9) (N := some 48) (v := ?_) (a' := ?_) #[true, true, true, true, true, true, true, true, true, true, false, false] rfl rfl (any_of HT_.out (by kernel_rfl)) (fun _ _ _ h => h) (Or.inl ⟨by rfl, ?_⟩) ?_ ?_
      rotate_left
      ·intro w'
       go_simp
       with_reducible rfl
      rotate_left
      ·exact zu
      refine one_ (i := 10) (N := none) #[true, true, true, true, true, true, true, true, true, true, true, false] rfl rfl (one_of HT_.out (by kernel_rfl)) (by decide) (fun K hK => ?_)
      have hs47 : w46.cell? ⟨gb131, 0, none⟩ = some (.int .i64 0) := (z5 BK131.out 0).trans rfl
      have hfs47 := z6 BK131.out 0
      have hns47_1 := NB143_131.out
      have hms47_1 := NB131_143.out
      have hs48 : w46.cell? ⟨gb131, 1, none⟩ = some (.int .i64 0) := (z5 BK131.out 1).trans rfl
      have hfs48 := z6 BK131.out 1
      have hns48_1 := NB143_131.out
      have hms48_1 := NB131_143.out
      have hs49 : w46.cell? ⟨gb131, 2, none⟩ = some (.int .i64 0) := (z5 BK131.out 2).trans rfl
      have hfs49 := z6 BK131.out 2
      have hns49_1 := NB143_131.out
      have hms49_1 := NB131_143.out
      refine skip_ (w1 := ?_) (by rfl) rfl ?_ ?_
      rotate_left
      ·go_simp
       rfl
      refine hK.out _ _ ⟨((cell_far (p := ⟨gb131, _, none⟩) NB143_131.out _).trans (((cell_far (p := ⟨gb131, _, none⟩) NB143_131.out _).trans (((cell_far (p := ⟨gb131, _, none⟩) NB143_131.out _).trans (hHeld.1)))))), ((cell_far (p := ⟨gb131, _, none⟩) NB143_131.out _).trans (((cell_far (p := ⟨gb131, _, none⟩) NB143_131.out _).trans (((cell_far (p := ⟨gb131, _, none⟩) NB143_131.out _).trans (hHeld.2.1)))))), ((cell_far (p := ⟨gb131, _, none⟩) NB143_131.out _).trans (((cell_far (p := ⟨gb131, _, none⟩) NB143_131.out _).trans (((cell_far (p := ⟨gb131, _, none⟩) NB143_131.out _).trans (hHeld.2.2))))))⟩ (fun hHeld => ?_)
      clear hK K
      refine pure_ (i := 11) (N := some 3) (v := ?_) (a' := ?_) #[true, true, true, true, true, true, true, true, true, true, true, true] rfl rfl (any_of HT_.out (by kernel_rfl)) (fun _ _ _ h => h) (Or.inl ⟨by rfl, ?_⟩) ?_ ?_
      rotate_left
      ·intro w'
       go_simp
       with_reducible rfl
      rotate_left
      ·exact zu
      refine done_ (done_of HT_.out (by kernel_rfl)) ?_
      try go_wp2
      refine bodyPost_ret (results_ct rfl _ _ gb131 31 #[.int .i64 t138, .int .i64 t140, .int .i64 t142] (0, 0) _ rfl (by (with_reducible repeat (first | refine zN ?_ _ | refine zO ?_ | refine zP ?_ _)); refine blk_put (cs := #[.int .i64 t138, .int .i64 t140, .int .i64 0]) ?_ 2 _ rfl; (with_reducible repeat (first | refine zN ?_ _ | refine zO ?_ | refine zP ?_ _)); refine blk_put (cs := #[.int .i64 t138, .int .i64 0, .int .i64 0]) ?_ 1 _ rfl; (with_reducible repeat (first | refine zN ?_ _ | refine zO ?_ | refine zP ?_ _)); refine blk_put (cs := #[.int .i64 0, .int .i64 0, .int .i64 0]) ?_ 0 _ rfl; (with_reducible repeat (first | refine zN ?_ _ | refine zO ?_ | refine zP ?_ _)); exact BK131.out) Tryz.underlying31 rfl (by kernel_rfl)) rfl ?_
      exact ⟨by first | rfl | (simp [errW_none, errW_some] <;> rfl) | (simp [*, errW_none, errW_some] <;> rfl), zb⟩
     rw [if_neg c17] at H
     exact absurd H (by simp)
    rw [if_neg c15] at H
    exact absurd H (by simp)
   rw [if_neg c13] at H
   exact absurd H (by simp)
end Go.Proofs.YtcpmkcidehhbiaaGreatDoor.PFnExactParseProgram
