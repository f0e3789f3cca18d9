/- Walks of the functions that a statement reaches, written by a program (the printing program, mended): no condition. -/
import Derived.Test.YtcpmkcidehhbiaaGreatDoorPFnExactParseProgramx0
import Derived.Test.YtcpmkcidehhbiaaGreatDoorPFnExactParseProgramx4
import Derived.Test.YtcpmkcidehhbiaaGreatDoorPFnExactParseProgramx7
import Derived.Test.YtcpmkcidehhbiaaGreatDoorPFnExactParseProgramx9
namespace Go.Proofs.YtcpmkcidehhbiaaGreatDoor.PFnExactParseProgram
open Go.RowKit Go.Proofs.YtcpmkcidehhbiaaGreatDoorW.PrintWords Go.Proofs.YtcpmkcidehhbiaaGreatDoorW.PrintLast Go.Proofs.YtcpmkcidehhbiaaGreatDoorW.PrintMore
attribute [local go_sem] max2_int min2_int max_two min_two max_three min_three max_four min_four
set_option linter.unusedVariables false
set_option maxRecDepth 100000
set_option maxHeartbeats 8000000
set_option linter.unusedSimpArgs false
mutual
def spec_ProgramText.l0 : Nat → List Int → Int → List (S40) → Option (ByteArray)
 | 0, _, _, _ => none
 | k + 1, x3, x4, x221000 => if x4 < (x221000.length : Int) then ((spec_ProgramOk.f k x221000).bind fun t224 => (spec_ProgramText.j1 k x3 x4 t224 x221000)) else (spec_ProgramText.j1 k x3 x4 false x221000)
def spec_ProgramText.j1 : Nat → List Int → Int → Bool → List (S40) → Option (ByteArray)
 | 0, _, _, _, _ => none
 | k + 1, x3, x4, x15, x221000 => if x15 = true then (if 0 ≤ x4 then (if x4 < (x221000.length : Int) then ((spec_l04Expr.f k ((rd_T40 x221000 x4).f1.f0) ((rd_T40 x221000 x4).f1.f1) ((rd_T40 x221000 x4).f1.f2)).bind fun t226 => (if 4 + t226.size ≤ 9223372036854775807 then (if ((⟨#[116, 97, 115, 107]⟩ : ByteArray) ++ t226).size + 1 ≤ 9223372036854775807 then (if x3.length + (((⟨#[116, 97, 115, 107]⟩ : ByteArray) ++ t226) ++ (⟨#[10]⟩ : ByteArray)).size < 140737488355328 then (spec_ProgramText.l1 k (x3 ++ bytesOf (((⟨#[116, 97, 115, 107]⟩ : ByteArray) ++ t226) ++ (⟨#[10]⟩ : ByteArray))) x4 0 x221000) else (none)) else (none)) else (none))) else (none)) else (none)) else (some (strOfNums x3))
def spec_ProgramText.l1 : Nat → List Int → Int → Int → List (S40) → Option (ByteArray)
 | 0, _, _, _, _ => none
 | k + 1, x3, x4, x5, x221000 => if 0 ≤ x4 then (if x4 < (x221000.length : Int) then (if x5 < (((rd_T40 x221000 x4).f0).length : Int) then (if 0 ≤ x5 then ((spec_FormatStmt.f k ((rd_T35 ((rd_T40 x221000 x4).f0) x5).f0) ((rd_T35 ((rd_T40 x221000 x4).f0) x5).f1) ((rd_T35 ((rd_T40 x221000 x4).f0) x5).f2) ((rd_T35 ((rd_T40 x221000 x4).f0) x5).f3.f0) ((rd_T35 ((rd_T40 x221000 x4).f0) x5).f3.f1) ((rd_T35 ((rd_T40 x221000 x4).f0) x5).f3.f2)).bind fun t233 => (if t233.size + 1 ≤ 9223372036854775807 then (if x3.length + (t233 ++ (⟨#[10]⟩ : ByteArray)).size < 140737488355328 then (spec_ProgramText.l1 k (x3 ++ bytesOf (t233 ++ (⟨#[10]⟩ : ByteArray))) x4 (wrap64 (x5 + 1)) x221000) else (none)) else (none))) else (none)) else (spec_ProgramText.l0 k x3 (wrap64 (x4 + 1)) x221000)) else (none)) else (none)
end
def spec_ProgramText.f (k : Nat) (l0_0 : List (S40)) : Option (ByteArray) := spec_ProgramText.l0 k (([] : List Int)) 0 l0_0
theorem spec_ProgramText.mono_l : ∀ k, (∀ y0 y1 y2, LeO (spec_ProgramText.l0 k y0 y1 y2) (spec_ProgramText.l0 (k + 1) y0 y1 y2)) ∧ (∀ y0 y1 y2 y3, LeO (spec_ProgramText.j1 k y0 y1 y2 y3) (spec_ProgramText.j1 (k + 1) y0 y1 y2 y3)) ∧ (∀ y0 y1 y2 y3, LeO (spec_ProgramText.l1 k y0 y1 y2 y3) (spec_ProgramText.l1 (k + 1) y0 y1 y2 y3))
 | 0 => ⟨fun _ _ _ r h => by simp [spec_ProgramText.l0] at h, fun _ _ _ _ r h => by simp [spec_ProgramText.j1] at h, fun _ _ _ _ r h => by simp [spec_ProgramText.l1] at h⟩
 | k + 1 => by
  obtain ⟨ih0, ih1, ih2⟩ := spec_ProgramText.mono_l k
  refine ⟨?_, ?_, ?_⟩
  intro y0 y1 y2; unfold spec_ProgramText.l0; rotate_left; intro y0 y1 y2 y3; unfold spec_ProgramText.j1; rotate_left; intro y0 y1 y2 y3; unfold spec_ProgramText.l1; rotate_left
  all_goals repeat' first | (with_reducible first | exact ih0 _ _ _ | exact ih1 _ _ _ _ | exact ih2 _ _ _ _ | exact spec_FormatStmt.mono _ _ _ _ _ _ _ | exact spec_ProgramOk.mono _ _ | exact spec_l04Expr.mono _ _ _ _ | exact LeO.refl _ | exact LeO.none _ | refine LeO.ite ?_ ?_ | refine LeO.bind ?_ (fun _ => ?_)) | exact ih0 _ _ _ | exact ih1 _ _ _ _ | exact ih2 _ _ _ _ | exact spec_FormatStmt.mono _ _ _ _ _ _ _ | exact spec_ProgramOk.mono _ _ | exact spec_l04Expr.mono _ _ _ _ | exact LeO.none _ | refine LeO.ite ?_ ?_ | refine LeO.bind ?_ (fun _ => ?_)
theorem spec_ProgramText.mono : ∀ a0 k, LeO (spec_ProgramText.f k a0) (spec_ProgramText.f (k + 1) a0) := by
 intro a0 k
 obtain ⟨ih0, ih1, ih2⟩ := spec_ProgramText.mono_l k
 unfold spec_ProgramText.f
 repeat' first | (with_reducible first | exact ih0 _ _ _ | exact ih1 _ _ _ _ | exact ih2 _ _ _ _ | exact spec_FormatStmt.mono _ _ _ _ _ _ _ | exact spec_ProgramOk.mono _ _ | exact spec_l04Expr.mono _ _ _ _ | exact LeO.refl _ | exact LeO.none _ | refine LeO.ite ?_ ?_ | refine LeO.bind ?_ (fun _ => ?_)) | exact ih0 _ _ _ | exact ih1 _ _ _ _ | exact ih2 _ _ _ _ | exact spec_FormatStmt.mono _ _ _ _ _ _ _ | exact spec_ProgramOk.mono _ _ | exact spec_l04Expr.mono _ _ _ _ | exact LeO.none _ | refine LeO.ite ?_ ?_ | refine LeO.bind ?_ (fun _ => ?_)
theorem spec_ProgramText.calls (k : Nat) (A0_0 : Option Addr) (c0_0 : Nat) (l0_0 : List (S40)) (r : ByteArray) (w : World) (hr0_0 : Kd.C k40 w A0_0 l0_0.length l0_0) (hc0_0 : l0_0.length ≤ c0_0) (h : spec_ProgramText.f k l0_0 = some r) :
  Calls Tryz.prog 12 #[.agg #[.slice A0_0 l0_0.length c0_0]] w fun e w' => e = .returned (.string r) ∧ Below w.heap.size w w' := by
 have hu24 := Tryz.underlying24
 have hu31 := Tryz.underlying31
 have hu35 := Tryz.underlying35
 have HR0_0 := zM hr0_0
 have HC0_0 := zM hc0_0
 clear hr0_0 hc0_0
 have HB := zM (Below.refl w.heap.size w)
 have H : (spec_ProgramText.l0 k (([] : List Int)) 0 l0_0) = some r := h
 clear h
 obtain ⟨y221, hyq⟩ : ∃ y_ : List Int, y_ = (([] : List Int)) := ⟨_, rfl⟩
 replace H : (spec_ProgramText.l0 k y221 0 l0_0) = some r := zh
 have Ny221 := zM hyq
 clear hyq
 have H' := zM H
 clear H
 go_enter Tryz.func12, Tryz.ntmps12
 go_wp2_with (first | ((with_reducible refine gate_dst (N := 1) rfl ?_); refine box_event ?hg (N := 1) ?hd (cs := #[.slice A0_0 l0_0.length c0_0]) (t := 24) ?hr ?_; (case hd => rfl); (case hg => rfl); (case hr => first | (go_simp; done) | (go_simp; rfl)); intro gb220 hg w2 hbox hb; have n0_ := zM (zQ zb hb); have n1_ := zM (hbox); have n2_ := zM ((by rw [hg]; exact (zR zb) : w.heap.size ≤ gb220)); have n3_ := zM ((by rw [hg]; exact (zR zb) : w.heap.size ≤ gb220)); clear HB; have HB := n0_; have BK220 := n1_; have GW220 := n2_; have GE220 := n3_; clear n0_ n1_ n2_ n3_; clear hb hbox hg) | ((with_reducible refine gate_dst (N := 6) rfl ?_); refine Kd.R_lit (Kd.int .u8) _ 5 ?hg (N := 6) ?hd (xs := ([] : List Int)) (inner := []) (ok := fun _ => True) (okp := fun _ => True) ?hr ?hp (fun _ hk => hk) trivial (Below.refl _ _) (Nat.le_refl _) (by simp) ?_; (case hd => rfl); (case hg => rfl); (case hr => first | (go_simp; done) | (go_simp; rfl)); (case hp => exact (Reps.none _ _)); intro v222 w3 ho4 hb hg_ hnew_; clear hg_ hnew_; (first | rw [← Ny221.out] at ho4 | (simp only [Int.reduceToNat] at ho4; rw [← Ny221.out] at ho4)); have n0_ := zM (zf ho4 (zR zb)); have n1_ := zM (z7 (g := gb220) (o := .cells #[.slice A0_0 l0_0.length c0_0] 24 (0, 0)) zk hb); have n2_ := zM (zQ zb hb); clear BK220; clear HB; have HO223 := n0_; have BK220 := n1_; have HB := n2_; clear n0_ n1_ n2_; clear hb ho4))
 go_loopg [3, 4] k (fun kq v3 v4 w' => ∃ (x3_1 : List Int) (x4_1 : Int), v4 = .int .i64 x4_1 ∧ Aside0 (spec_ProgramText.l0 kq x3_1 x4_1 l0_0 = some r) ∧ Aside0 (kq ≤ k) ∧ Aside0 (Kd.R (Kd.int .u8) 5 w' w.heap.size (fun _ => True) v3 x3_1) ∧ Aside0 (w'.heap[gb220]? = some (.cells #[(.slice A0_0 l0_0.length c0_0)] 24 (0, 0))) ∧ Aside0 (Below w.heap.size w w'))
 case atStart => exact ⟨(y221), (0), zs, H', ⟨Nat.le_refl _⟩, ⟨by (with_reducible repeat (first | apply zI | apply zJ | apply zK)); exact HO223.out⟩, ⟨zk⟩, ⟨zb⟩⟩
 case round =>
  clear H'
  try clear c1
  try clear p2
  obtain ⟨x3_1, x4_1, rfl, HA, HK1, HO_3, BK220, HB⟩ := hrel
  cases gk with
  | zero => exact absurd HA.out (by simp [spec_ProgramText.l0])
  | succ k1 =>
   have H := HA.out
   clear HA
   simp only [spec_ProgramText.l0] at H
   have HC5 := zM H
   clear H
   go_upto_region 3 with (fail)
   go_cut [15] (fun v15 wc => ∃ (kq : Nat) (x15_4 : Bool), v15 = .bool x15_4 ∧ Aside0 (spec_ProgramText.j1 kq x3_1 x4_1 x15_4 l0_0 = some r) ∧ Aside0 (kq ≤ k1) ∧ Aside0 (Kd.R (Kd.int .u8) 5 wc w.heap.size (fun _ => True) u3 x3_1) ∧ Aside0 (wc.heap[gb220]? = some (.cells #[(.slice A0_0 l0_0.length c0_0)] 24 (0, 0))) ∧ Aside0 (Below w.heap.size w wc))
   case first =>
    have H := HC5.out
    clear HC5
    by_cases c6 : x4_1 < (l0_0.length : Int)
    ·rw [if_pos c6] at H
     have c6b0 : decide (x4_1 < (l0_0.length : Int)) = true := decide_eq_true c6
     clear c6
     (first | rw [c6b0] | (simp only [i64_w, i32_w]; rw [c6b0]) | skip)
     replace H := Option.bind_eq_some_iff.mp H
     obtain ⟨t224, A70, H⟩ := H
     replace H : (spec_ProgramText.j1 k1 x3_1 x4_1 t224 l0_0) = some r := H
     have A7 := zM A70
     clear A70
     have H' := zM H
     clear H
     have hcz8_0 := (z5 BK220.out 0).trans rfl
     have hfz8_0 := z6 BK220.out 0
     go_wp2_with (first | (go_at_call 13; (with_reducible refine (spec_ProgramOk.calls k1 _ _ l0_0 t224 _ ?side1 ?side2 A7.out).mono ?_); (case side1 => repeat (first | exact (zX HR0_0.out HB.out) | (with_reducible refine zF ?_ _) | (with_reducible refine zG ?_ _) | (with_reducible refine zH ?_))); (case side2 => exact HC0_0.out); rintro e w9 ⟨rfl, hb⟩; have n0_ := zM (ze (by (with_reducible repeat (first | apply zI | apply zJ | apply zK)); exact HO_3.out) hb); have n1_ := zM (z7 (g := gb220) (o := .cells #[.slice A0_0 l0_0.length c0_0] 24 (0, 0)) zk hb); have n2_ := zM (zQ zb hb); clear HO_3; clear BK220; clear HB; have HO_3 := n0_; have BK220 := n1_; have HB := n2_; clear n0_ n1_ n2_; (try clear hb)))
     go_meet
     case rel => exact ⟨_, (t224), zs, H', ⟨by have := HK1.out; first | omega | exact Nat.le_refl _⟩, ⟨by (with_reducible repeat (first | apply zI | apply zJ | apply zK)); exact HO_3.out⟩, ⟨zk⟩, ⟨zb⟩⟩
    rw [if_neg c6] at H
    have c6b0 : decide (x4_1 < (l0_0.length : Int)) = false := decide_eq_false c6
    clear c6
    (first | rw [c6b0] | (simp only [i64_w, i32_w]; rw [c6b0]) | skip)
    have H' := zM H
    clear H
    have hcz10_0 := (z5 BK220.out 0).trans rfl
    have hfz10_0 := z6 BK220.out 0
    go_wp2
    go_meet
    case rel => exact ⟨_, (false), zs, H', ⟨by have := HK1.out; first | omega | exact Nat.le_refl _⟩, ⟨by (with_reducible repeat (first | apply zI | apply zJ | apply zK)); exact HO_3.out⟩, ⟨zk⟩, ⟨zb⟩⟩
   case rest =>
    clear HC5
    try clear c1
    try clear p2
    try clear c6
    try clear c6b0
    try clear hcz10_0
    try clear hcz8_0
    try clear hfz10_0
    try clear hfz8_0
    try clear p2
    obtain ⟨kq, x15_4, rfl, HA, HJ4, HO_3, BK220, HB⟩ := hcut
    cases kq with
    | zero => exact absurd HA.out (by simp [spec_ProgramText.j1])
    | succ kj4 =>
     have H := HA.out
     clear HA
     simp only [spec_ProgramText.j1] at H
     by_cases c11 : x15_4 = true
     ·subst c11
      have H1 : (if 0 ≤ x4_1 then (if x4_1 < (l0_0.length : Int) then ((spec_l04Expr.f kj4 ((rd_T40 l0_0 x4_1).f1.f0) ((rd_T40 l0_0 x4_1).f1.f1) ((rd_T40 l0_0 x4_1).f1.f2)).bind fun t226 => (if 4 + t226.size ≤ 9223372036854775807 then (if ((⟨#[116, 97, 115, 107]⟩ : ByteArray) ++ t226).size + 1 ≤ 9223372036854775807 then (if x3_1.length + (((⟨#[116, 97, 115, 107]⟩ : ByteArray) ++ t226) ++ (⟨#[10]⟩ : ByteArray)).size < 140737488355328 then (spec_ProgramText.l1 kj4 (x3_1 ++ bytesOf (((⟨#[116, 97, 115, 107]⟩ : ByteArray) ++ t226) ++ (⟨#[10]⟩ : ByteArray))) x4_1 0 l0_0) else (none)) else (none)) else (none))) else (none)) else (none)) = some r := by rw [if_pos rfl] at H; exact H
      clear H
      have H := H1
      clear H1
      by_cases c12 : 0 ≤ x4_1
      ·rw [if_pos c12] at H
       have c12b0 : decide (0 ≤ x4_1) = true := decide_eq_true c12
       clear c12
       by_cases c13 : x4_1 < (l0_0.length : Int)
       ·rw [if_pos c13] at H
        have c13b0 : decide (x4_1 < (l0_0.length : Int)) = true := decide_eq_true c13
        clear c13
        replace H := Option.bind_eq_some_iff.mp H
        obtain ⟨t226, A140, H⟩ := H
        replace H : (if 4 + t226.size ≤ 9223372036854775807 then (if ((⟨#[116, 97, 115, 107]⟩ : ByteArray) ++ t226).size + 1 ≤ 9223372036854775807 then (if x3_1.length + (((⟨#[116, 97, 115, 107]⟩ : ByteArray) ++ t226) ++ (⟨#[10]⟩ : ByteArray)).size < 140737488355328 then (spec_ProgramText.l1 kj4 (x3_1 ++ bytesOf (((⟨#[116, 97, 115, 107]⟩ : ByteArray) ++ t226) ++ (⟨#[10]⟩ : ByteArray))) x4_1 0 l0_0) else (none)) else (none)) else (none)) = some r := H
        have A14 := zM A140
        clear A140
        by_cases c15 : 4 + t226.size ≤ 9223372036854775807
        ·rw [if_pos c15] at H
         have c15b0 := eq_true c15
         have c15b1 : decide (4 + t226.size ≤ 9223372036854775807) = true := decide_eq_true c15
         try have c15b2 : (9223372036854775807 < 4 + t226.size) = False := eq_false (Nat.not_lt.2 c15)
         by_cases c16 : ((⟨#[116, 97, 115, 107]⟩ : ByteArray) ++ t226).size + 1 ≤ 9223372036854775807
         ·rw [if_pos c16] at H
          have c16b0 := eq_true c16
          have c16b1 : decide (((⟨#[116, 97, 115, 107]⟩ : ByteArray) ++ t226).size + 1 ≤ 9223372036854775807) = true := decide_eq_true c16
          try have c16b2 : (9223372036854775807 < ((⟨#[116, 97, 115, 107]⟩ : ByteArray) ++ t226).size + 1) = False := eq_false (Nat.not_lt.2 c16)
          try have c16b3 : (9223372036854775807 < 4 + t226.size + 1) = False := by have z := c16b2; simp only [ByteArray.size_append] at z; exact z
          by_cases c17 : x3_1.length + (((⟨#[116, 97, 115, 107]⟩ : ByteArray) ++ t226) ++ (⟨#[10]⟩ : ByteArray)).size < 140737488355328
          ·rw [if_pos c17] at H
           have LMc17 := zM c17
           clear c17
           obtain ⟨y227, hyq⟩ : ∃ y_ : List Int, y_ = (x3_1 ++ bytesOf (((⟨#[116, 97, 115, 107]⟩ : ByteArray) ++ t226) ++ (⟨#[10]⟩ : ByteArray))) := ⟨_, rfl⟩
           replace H : (spec_ProgramText.l1 kj4 y227 x4_1 0 l0_0) = some r := zh
           have Ny227 := zM hyq
           clear hyq
           have H' := zM H
           clear H
           have hcz18_0 := (z5 BK220.out 0).trans rfl
           have hfz18_0 := z6 BK220.out 0
           have p225 : 0 ≤ (x4_1 : Int) := zd
           have q225 : x4_1 < (l0_0.length : Int) := zd
           obtain ⟨ad225, A225_0, c225_0, e225, hx225_0, hx225_1, hx225_2, hx225_3, hl225_0, hi225_0⟩ := at_T40 HR0_0.out x4_1 p225 q225
           cases e225
           replace hx225_0 := (HB.out.cell (zm w _ hx225_0)).trans hx225_0
           replace hx225_1 := (HB.out.cell (zm w _ hx225_1)).trans hx225_1
           replace hx225_2 := (HB.out.cell (zm w _ hx225_2)).trans hx225_2
           replace hx225_3 := (HB.out.cell (zm w _ hx225_3)).trans hx225_3
           have HR225_0 := zM hi225_0
           have HC225_0 := zM hl225_0
           clear hi225_0 hl225_0
           replace p225 := eq_true p225
           replace q225 := eq_true q225
           go_wp2_with (first | ((with_reducible refine gate_callee (f := 24) rfl ?_); refine goesL_ (some 25) rfl rfl Tryz.func24 (by kernel_rfl) rfl #[.agg #[.int .i64 ((rd_T40 l0_0 x4_1).f1.f0), .int .i64 ((rd_T40 l0_0 x4_1).f1.f1), .int .i64 ((rd_T40 l0_0 x4_1).f1.f2)]] rfl zg ?_; (with_reducible refine (spec_l04Expr.calls kj4 ((rd_T40 l0_0 x4_1).f1.f0) ((rd_T40 l0_0 x4_1).f1.f1) ((rd_T40 l0_0 x4_1).f1.f2) t226 _ A14.out).mono ?_); rintro e w19 ⟨rfl, hb⟩; refine ⟨_, rfl, ?_⟩; have n0_ := zM (ze (by (with_reducible repeat (first | apply zI | apply zJ | apply zK)); exact HO_3.out) hb); have n1_ := zM (z7 (g := gb220) (o := .cells #[.slice (some ad225) l0_0.length c0_0] 24 (0, 0)) zk hb); have n2_ := zM (zQ zb hb); clear HO_3; clear BK220; clear HB; have HO_3 := n0_; have BK220 := n1_; have HB := n2_; clear n0_ n1_ n2_; (try clear hb)) | (at_builtin; refine print_append_str (w0 := w) w.heap.size rfl (.tmp 18) _ 58 9 5 rfl Tryz.underlying58 Tryz.underlying9 info5 u3 x3_1 (((⟨#[116, 97, 115, 107]⟩ : ByteArray) ++ t226) ++ (⟨#[10]⟩ : ByteArray)) rfl rfl ?aO ?aB ?aS ?aL ?_; (case aB => exact zb); (case aO => exact (Kd.own_of_R (by (with_reducible repeat (first | apply zI | apply zJ | apply zK)); exact HO_3.out))); (case aS => exact (zR zb)); (case aL => have := LMc17.out; omega); intro v228 w20 ho0 hb hg; have ho := Kd.R_of_own (h1 := fun _ => rfl) (ok := fun _ => True) ho0 (fun _ _ => trivial); clear ho0; have hat := True.intro; (first | rw [← Ny227.out] at ho | (simp only [Int.reduceToNat] at ho; rw [← Ny227.out] at ho)); change Kd.R (Kd.int .u8) 5 w20 w.heap.size (fun _ => True) v228 y227 at ho; have n0_ := zM (blk_grown (g := gb220) (o := .cells #[.slice (some ad225) l0_0.length c0_0] 24 (0, 0)) zk hg (Kd.R_ne HO_3.out BK220.out (by decide))); have n1_ := zM (hb); have n2_ := zM (ho); clear BK220; clear HB; clear HO_3; have BK220 := n0_; have HB := n1_; have HO229 := n2_; clear n0_ n1_ n2_; clear ho hb hg hat))
           go_loopg [3, 5] kj4 (fun kq v3 v5 w' => ∃ (x3_3 : List Int) (x5_3 : Int), v5 = .int .i64 x5_3 ∧ Aside0 (spec_ProgramText.l1 kq x3_3 x4_1 x5_3 l0_0 = some r) ∧ Aside0 (kq ≤ kj4) ∧ Aside0 (Kd.R (Kd.int .u8) 5 w' w.heap.size (fun _ => True) v3 x3_3) ∧ Aside0 (w'.heap[gb220]? = some (.cells #[(.slice (some ad225) l0_0.length c0_0)] 24 (0, 0))) ∧ Aside0 (Below w.heap.size w w'))
           case atStart => exact ⟨(y227), (0), zs, H', ⟨Nat.le_refl _⟩, ⟨by (with_reducible repeat (first | apply zI | apply zJ | apply zK)); exact HO229.out⟩, ⟨zk⟩, ⟨zb⟩⟩
           case round =>
            clear H'
            try clear c1
            try clear c2
            try clear p2
            try clear q2
            try clear hx2
            try clear c6
            try clear c6b0
            try clear c11
            try clear c12
            try clear c12b0
            try clear c13
            try clear c13b0
            try clear c15
            try clear c15b0
            try clear c15b1
            try clear c15b2
            try clear c16
            try clear c16b0
            try clear c16b1
            try clear c16b2
            try clear c17
            try clear hcz10_0
            try clear hcz18_0
            try clear hcz8_0
            try clear hfz10_0
            try clear hfz18_0
            try clear hfz8_0
            try clear hx225_0
            try clear hx225_1
            try clear hx225_2
            try clear hx225_3
            try clear p2
            try clear p225
            try clear q225
            obtain ⟨x3_3, x5_3, rfl, HA, HK3, HO_3, BK220, HB⟩ := hrel
            cases gk with
            | zero => exact absurd HA.out (by simp [spec_ProgramText.l1])
            | succ k3 =>
             have H := HA.out
             clear HA
             simp only [spec_ProgramText.l1] at H
             by_cases c21 : 0 ≤ x4_1
             ·rw [if_pos c21] at H
              have c21b0 : decide (0 ≤ x4_1) = true := decide_eq_true c21
              clear c21
              by_cases c22 : x4_1 < (l0_0.length : Int)
              ·rw [if_pos c22] at H
               have c22b0 : decide (x4_1 < (l0_0.length : Int)) = true := decide_eq_true c22
               clear c22
               by_cases c23 : x5_3 < (((rd_T40 l0_0 x4_1).f0).length : Int)
               ·rw [if_pos c23] at H
                have c23b0 : decide (x5_3 < (((rd_T40 l0_0 x4_1).f0).length : Int)) = true := decide_eq_true c23
                clear c23
                by_cases c24 : 0 ≤ x5_3
                ·rw [if_pos c24] at H
                 have c24b0 : decide (0 ≤ x5_3) = true := decide_eq_true c24
                 clear c24
                 replace H := Option.bind_eq_some_iff.mp H
                 obtain ⟨t233, A250, H⟩ := H
                 replace H : (if t233.size + 1 ≤ 9223372036854775807 then (if x3_3.length + (t233 ++ (⟨#[10]⟩ : ByteArray)).size < 140737488355328 then (spec_ProgramText.l1 k3 (x3_3 ++ bytesOf (t233 ++ (⟨#[10]⟩ : ByteArray))) x4_1 (wrap64 (x5_3 + 1)) l0_0) else (none)) else (none)) = some r := H
                 have A25 := zM A250
                 clear A250
                 by_cases c26 : t233.size + 1 ≤ 9223372036854775807
                 ·rw [if_pos c26] at H
                  have c26b0 := eq_true c26
                  have c26b1 : decide (t233.size + 1 ≤ 9223372036854775807) = true := decide_eq_true c26
                  try have c26b2 : (9223372036854775807 < t233.size + 1) = False := eq_false (Nat.not_lt.2 c26)
                  by_cases c27 : x3_3.length + (t233 ++ (⟨#[10]⟩ : ByteArray)).size < 140737488355328
                  ·rw [if_pos c27] at H
                   have LMc27 := zM c27
                   clear c27
                   obtain ⟨y234, hyq⟩ : ∃ y_ : List Int, y_ = (x3_3 ++ bytesOf (t233 ++ (⟨#[10]⟩ : ByteArray))) := ⟨_, rfl⟩
                   replace H : (spec_ProgramText.l1 k3 y234 x4_1 (wrap64 (x5_3 + 1)) l0_0) = some r := zh
                   have Ny234 := zM hyq
                   clear hyq
                   have H' := zM H
                   clear H
                   have hcz28_0 := (z5 BK220.out 0).trans rfl
                   have hfz28_0 := z6 BK220.out 0
                   have p230 : 0 ≤ (x4_1 : Int) := zd
                   have q230 : x4_1 < (l0_0.length : Int) := zd
                   obtain ⟨ad230, A230_0, c230_0, e230, hx230_0, hx230_1, hx230_2, hx230_3, hl230_0, hi230_0⟩ := at_T40 HR0_0.out x4_1 p230 q230
                   obtain rfl : ad225 = ad230 := (by injection e230)
                   replace hx230_0 := (HB.out.cell (zm w _ hx230_0)).trans hx230_0
                   replace hx230_1 := (HB.out.cell (zm w _ hx230_1)).trans hx230_1
                   replace hx230_2 := (HB.out.cell (zm w _ hx230_2)).trans hx230_2
                   replace hx230_3 := (HB.out.cell (zm w _ hx230_3)).trans hx230_3
                   have HR230_0 := zM hi230_0
                   have HC230_0 := zM hl230_0
                   clear hi230_0 hl230_0
                   replace p230 := eq_true p230
                   replace q230 := eq_true q230
                   have p231 : 0 ≤ (x4_1 : Int) := zd
                   have q231 : x4_1 < (l0_0.length : Int) := zd
                   obtain ⟨ad231, A231_0, c231_0, e231, hx231_0, hx231_1, hx231_2, hx231_3, hl231_0, hi231_0⟩ := at_T40 HR0_0.out x4_1 p231 q231
                   obtain rfl : ad225 = ad231 := (by injection e231)
                   replace hx231_0 := (HB.out.cell (zm w _ hx231_0)).trans hx231_0
                   replace hx231_1 := (HB.out.cell (zm w _ hx231_1)).trans hx231_1
                   replace hx231_2 := (HB.out.cell (zm w _ hx231_2)).trans hx231_2
                   replace hx231_3 := (HB.out.cell (zm w _ hx231_3)).trans hx231_3
                   have HR231_0 := zM hi231_0
                   have HC231_0 := zM hl231_0
                   clear hi231_0 hl231_0
                   replace p231 := eq_true p231
                   replace q231 := eq_true q231
                   have ea_ := Option.some.inj (hx230_0.symm.trans hx231_0)
                   injection ea_ with ea_ en_ ec_
                   subst ea_
                   subst ec_
                   clear en_
                   have p232 : 0 ≤ (x5_3 : Int) := zd
                   have q232 : x5_3 < (((rd_T40 l0_0 x4_1).f0).length : Int) := zd
                   obtain ⟨ad232, e232, hx232_0, hx232_1, hx232_2, hx232_3, hx232_4, hx232_5⟩ := at_T35 HR231_0.out x5_3 p232 q232
                   cases e232
                   replace hx232_0 := (HB.out.cell (zm w _ hx232_0)).trans hx232_0
                   replace hx232_1 := (HB.out.cell (zm w _ hx232_1)).trans hx232_1
                   replace hx232_2 := (HB.out.cell (zm w _ hx232_2)).trans hx232_2
                   replace hx232_3 := (HB.out.cell (zm w _ hx232_3)).trans hx232_3
                   replace hx232_4 := (HB.out.cell (zm w _ hx232_4)).trans hx232_4
                   replace hx232_5 := (HB.out.cell (zm w _ hx232_5)).trans hx232_5
                   replace p232 := eq_true p232
                   replace q232 := eq_true q232
                   go_wp2_with (first | ((with_reducible refine gate_callee (f := 11) rfl ?_); refine goesL_ (some 50) rfl rfl Tryz.func11 (by kernel_rfl) rfl #[.agg #[.int .i64 ((rd_T35 ((rd_T40 l0_0 x4_1).f0) x5_3).f0), .int .i64 ((rd_T35 ((rd_T40 l0_0 x4_1).f0) x5_3).f1), .int .i64 ((rd_T35 ((rd_T40 l0_0 x4_1).f0) x5_3).f2), .int .i64 ((rd_T35 ((rd_T40 l0_0 x4_1).f0) x5_3).f3.f0), .int .i64 ((rd_T35 ((rd_T40 l0_0 x4_1).f0) x5_3).f3.f1), .int .i64 ((rd_T35 ((rd_T40 l0_0 x4_1).f0) x5_3).f3.f2)]] rfl zg ?_; (with_reducible refine (spec_FormatStmt.calls k3 ((rd_T35 ((rd_T40 l0_0 x4_1).f0) x5_3).f0) ((rd_T35 ((rd_T40 l0_0 x4_1).f0) x5_3).f1) ((rd_T35 ((rd_T40 l0_0 x4_1).f0) x5_3).f2) ((rd_T35 ((rd_T40 l0_0 x4_1).f0) x5_3).f3.f0) ((rd_T35 ((rd_T40 l0_0 x4_1).f0) x5_3).f3.f1) ((rd_T35 ((rd_T40 l0_0 x4_1).f0) x5_3).f3.f2) t233 _ A25.out).mono ?_); rintro e w29 ⟨rfl, hb⟩; refine ⟨_, rfl, ?_⟩; have n0_ := zM (ze (by (with_reducible repeat (first | apply zI | apply zJ | apply zK)); exact HO_3.out) hb); have n1_ := zM (z7 (g := gb220) (o := .cells #[.slice (some ad225) l0_0.length c0_0] 24 (0, 0)) zk hb); have n2_ := zM (zQ zb hb); clear HO_3; clear BK220; clear HB; have HO_3 := n0_; have BK220 := n1_; have HB := n2_; clear n0_ n1_ n2_; (try clear hb)) | (at_builtin; refine print_append_str (w0 := w) w.heap.size rfl (.tmp 40) _ 58 9 5 rfl Tryz.underlying58 Tryz.underlying9 info5 u3 x3_3 (t233 ++ (⟨#[10]⟩ : ByteArray)) rfl rfl ?aO ?aB ?aS ?aL ?_; (case aB => exact zb); (case aO => exact (Kd.own_of_R (by (with_reducible repeat (first | apply zI | apply zJ | apply zK)); exact HO_3.out))); (case aS => exact (zR zb)); (case aL => have := LMc27.out; omega); intro v235 w30 ho0 hb hg; have ho := Kd.R_of_own (h1 := fun _ => rfl) (ok := fun _ => True) ho0 (fun _ _ => trivial); clear ho0; have hat := True.intro; (first | rw [← Ny234.out] at ho | (simp only [Int.reduceToNat] at ho; rw [← Ny234.out] at ho)); change Kd.R (Kd.int .u8) 5 w30 w.heap.size (fun _ => True) v235 y234 at ho; have n0_ := zM (blk_grown (g := gb220) (o := .cells #[.slice (some ad225) l0_0.length c0_0] 24 (0, 0)) zk hg (Kd.R_ne HO_3.out BK220.out (by decide))); have n1_ := zM (hb); have n2_ := zM (ho); clear BK220; clear HB; clear HO_3; have BK220 := n0_; have HB := n1_; have HO236 := n2_; clear n0_ n1_ n2_; clear ho hb hg hat))
                   go_roundg k3
                   case measure => have := HK1.out; have := HJ4.out; have := HK3.out; omega
                   case rel => exact ⟨(y234), (wrap64 (x5_3 + 1)), zs, H', ⟨by have := HK1.out; have := HJ4.out; have := HK3.out; omega⟩, ⟨by (with_reducible repeat (first | apply zI | apply zJ | apply zK)); exact HO236.out⟩, ⟨zk⟩, ⟨zb⟩⟩
                  rw [if_neg c27] at H
                  exact absurd H (by simp)
                 rw [if_neg c26] at H
                 exact absurd H (by simp)
                rw [if_neg c24] at H
                exact absurd H (by simp)
               rw [if_neg c23] at H
               have c23b0 : decide (x5_3 < (((rd_T40 l0_0 x4_1).f0).length : Int)) = false := decide_eq_false c23
               clear c23
               have H' := zM H
               clear H
               have hcz31_0 := (z5 BK220.out 0).trans rfl
               have hfz31_0 := z6 BK220.out 0
               have p230 : 0 ≤ (x4_1 : Int) := zd
               have q230 : x4_1 < (l0_0.length : Int) := zd
               obtain ⟨ad230, A230_0, c230_0, e230, hx230_0, hx230_1, hx230_2, hx230_3, hl230_0, hi230_0⟩ := at_T40 HR0_0.out x4_1 p230 q230
               obtain rfl : ad225 = ad230 := (by injection e230)
               replace hx230_0 := (HB.out.cell (zm w _ hx230_0)).trans hx230_0
               replace hx230_1 := (HB.out.cell (zm w _ hx230_1)).trans hx230_1
               replace hx230_2 := (HB.out.cell (zm w _ hx230_2)).trans hx230_2
               replace hx230_3 := (HB.out.cell (zm w _ hx230_3)).trans hx230_3
               have HR230_0 := zM hi230_0
               have HC230_0 := zM hl230_0
               clear hi230_0 hl230_0
               replace p230 := eq_true p230
               replace q230 := eq_true q230
               go_wp2
               go_roundg k3
               case measure => have := HK1.out; have := HJ4.out; have := HK3.out; omega
               case rel => exact ⟨(x3_3), (wrap64 (x4_1 + 1)), zs, H', ⟨by have := HK1.out; have := HJ4.out; have := HK3.out; omega⟩, ⟨by (with_reducible repeat (first | apply zI | apply zJ | apply zK)); exact HO_3.out⟩, ⟨zk⟩, ⟨zb⟩⟩
              rw [if_neg c22] at H
              exact absurd H (by simp)
             rw [if_neg c21] at H
             exact absurd H (by simp)
          rw [if_neg c17] at H
          exact absurd H (by simp)
         rw [if_neg c16] at H
         exact absurd H (by simp)
        rw [if_neg c15] at H
        exact absurd H (by simp)
       rw [if_neg c13] at H
       exact absurd H (by simp)
      rw [if_neg c12] at H
      exact absurd H (by simp)
     replace c11 := Bool.eq_false_iff.mpr c11
     subst c11
     have H1 : (some (strOfNums x3_1)) = some r := by rw [if_neg (show ¬ (false = true) by decide)] at H; exact H
     clear H
     have H := H1
     clear H1
     obtain rfl := Option.some.inj H
     have hcv32 := own_string (P := Tryz.prog) Tryz.underlying58 Tryz.underlying5 Tryz.underlying9 (Kd.own_of_R HO_3.out)
     go_wp2
     go_ret
     exact ⟨by first | rfl | (simp [errW_none, errW_some] <;> rfl) | (simp [*, errW_none, errW_some] <;> rfl), zb⟩
end Go.Proofs.YtcpmkcidehhbiaaGreatDoor.PFnExactParseProgram
