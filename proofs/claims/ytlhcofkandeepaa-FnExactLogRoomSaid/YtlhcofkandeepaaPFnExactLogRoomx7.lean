/- Walks of the functions that a statement reaches, written by a program (the printing program, mended): no condition. -/
import Derived.Test.YtlhcofkandeepaaPFnExactLogRoomx0
import Derived.Test.YtlhcofkandeepaaPFnExactLogRoomx3
import Derived.Test.YtlhcofkandeepaaPFnExactLogRoomx5
import Derived.Test.YtlhcofkandeepaaPFnExactLogRoomx6
namespace Go.Proofs.Ytlhcofkandeepaa.PFnExactLogRoom
open Go.RowKit Go.Proofs.YtlhcofkandeepaaW.PrintWords Go.Proofs.YtlhcofkandeepaaW.PrintLast Go.Proofs.YtlhcofkandeepaaW.PrintMore
attribute [local go_sem] max2_int min2_int max_two min_two max_three min_three max_four min_four   -- for this text's walks alone
set_option linter.unusedVariables false
set_option linter.unusedSimpArgs false

/-! ### spec_l07Note: function 61 -/
def spec_l07Note.l0 : Nat → List Bool → List Bool → List Int → Int → Option (List Bool)
 | 0, _, _, _, _ => none
 | k + 1, x0, x1, x6, x7 => if x7 < (x6.length : Int) then (if 0 ≤ x7 then (if 0 ≤ (rd x6 x7) then (if (rd x6 x7) < (x1.length : Int) then (if (rdOf false x1 (rd x6 x7) = true) then (spec_l07Note.l0 k x0 x1 x6 (wrap64 (x7 + 1))) else (if (rd x6 x7) < (x0.length : Int) then (spec_l07Note.l0 k (x0.set ((rd x6 x7) : Int).toNat true) x1 x6 (wrap64 (x7 + 1))) else (none))) else (none)) else (none)) else (none)) else (some x0)
def spec_l07Note.f (k : Nat) (l0 : List Bool) (l1 : List Bool) (a2_0 : Int) (a2_1 : Int) (a2_2 : Int) : Option (List Bool) := (spec_ReadsOf.f k a2_0 a2_1 a2_2).bind fun t179 => (spec_l07Note.l0 k l0 l1 t179 0)
theorem spec_l07Note.mono_l : ∀ k, (∀ y0 y1 y2 y3, LeO (spec_l07Note.l0 k y0 y1 y2 y3) (spec_l07Note.l0 (k + 1) y0 y1 y2 y3))
 | 0 => fun _ _ _ _ r h => by simp [spec_l07Note.l0] at h
 | k + 1 => by
  have ih0 := spec_l07Note.mono_l k
  ·intro y0 y1 y2 y3
   unfold spec_l07Note.l0
   repeat' first
   | (with_reducible exact ih0 _ _ _ _)
   | (with_reducible exact spec_ReadsOf.mono _ _ _ _)
   | (with_reducible exact LeO.refl _)
   | (with_reducible exact LeO.none _)
   | (with_reducible refine LeO.ite ?_ ?_)
   | (with_reducible refine LeO.bind ?_ (fun _ => ?_))
   | exact ih0 _ _ _ _
   | exact spec_ReadsOf.mono _ _ _ _
   | exact LeO.none _
   | refine LeO.ite ?_ ?_
   | refine LeO.bind ?_ (fun _ => ?_)
theorem spec_l07Note.mono : ∀ a0 a1 a2 a3 a4 k, LeO (spec_l07Note.f k a0 a1 a2 a3 a4) (spec_l07Note.f (k + 1) a0 a1 a2 a3 a4) := by
 intro a0 a1 a2 a3 a4 k
 have ih0 := spec_l07Note.mono_l k
 unfold spec_l07Note.f
 repeat' first
   | (with_reducible exact ih0 _ _ _ _)
   | (with_reducible exact spec_ReadsOf.mono _ _ _ _)
   | (with_reducible exact LeO.refl _)
   | (with_reducible exact LeO.none _)
   | (with_reducible refine LeO.ite ?_ ?_)
   | (with_reducible refine LeO.bind ?_ (fun _ => ?_))
   | exact ih0 _ _ _ _
   | exact spec_ReadsOf.mono _ _ _ _
   | exact LeO.none _
   | refine LeO.ite ?_ ?_
   | refine LeO.bind ?_ (fun _ => ?_)
set_option maxHeartbeats 8000000 in
set_option maxRecDepth 100000 in
theorem spec_l07Note.calls (k : Nat) (P0_ : Nat → Prop) (u9000_ : Value) (l0 : List Bool) (A1 : Option Addr) (c1 : Nat) (l1 : List Bool) (a2_0 : Int) (a2_1 : Int) (a2_2 : Int) (r : List Bool) (w0 w : World) (hB : Below w0.heap.size w0 w) (ho0 : Kd.R Kd.bool 4 w w0.heap.size P0_ u9000_ l0) (hr1 : ∀ W_, Kept w W_ (fun k_ => P0_ k_) → Kd.C Kd.bool W_ A1 l1.length l1) (hc1 : l1.length ≤ c1) (h : spec_l07Note.f k l0 l1 a2_0 a2_1 a2_2 = some r) :
  Calls Try.prog 61 #[u9000_, .slice A1 l1.length c1, .agg #[.int .i64 a2_0, .int .i64 a2_1, .int .i64 a2_2]] w fun e w' => e = .returned (.tuple #[]) ∧ Kd.R Kd.bool 4 w' w0.heap.size (fun k_ => (P0_ k_ ∨ w.heap.size ≤ k_)) u9000_ r ∧ Below w0.heap.size w0 w' ∧ Kept w w' (fun k_ => P0_ k_) := by
 have hu37 := Try.underlying37
 have HO0 := zM (show Kd.R Kd.bool 4 w w0.heap.size (fun k_ => (P0_ k_ ∨ w.heap.size ≤ k_)) u9000_ l0 from z1 ho0 (fun k_ hk => (.inl hk)))
 have HR1 := zM hr1
 have HC1 := zM hc1
 clear hr1 hc1
 have HK := zM (Kept.refl w (fun k_ => P0_ k_))
 have HW0 := zM hB.size
 have HB := zM hB
 clear hB
 have H : ((spec_ReadsOf.f k a2_0 a2_1 a2_2).bind fun t179 => (spec_l07Note.l0 k l0 l1 t179 0)) = some r := h
 clear h
 replace H := Option.bind_eq_some_iff.mp H
 obtain ⟨t179, A40, H⟩ := H
 replace H : (spec_l07Note.l0 k l0 l1 t179 0) = some r := H
 have A4 := zM A40
 clear A40
 have H' := zM H
 clear H
 go_enter Try.func61, Try.ntmps61
 go_wp2_with (first | ((with_reducible refine gate_dst (N := 5) rfl ?_); refine box_event ?hg (N := 5) ?hd (cs := #[.int .i64 a2_0, .int .i64 a2_1, .int .i64 a2_2]) (t := 37) ?hr ?_; (case hd => rfl); (case hg => rfl); (case hr => first | (go_simp; done) | (go_simp; rfl)); intro gb178 hg w5 hbox hb; have n0_ := zM (ze (by (with_reducible repeat (first | apply zI | apply zJ | apply zK)); exact HO0.out) hb); have n1_ := zM (Kept.below (S := (fun k_ => P0_ k_)) (by repeat (first | (with_reducible first | exact HK.out | apply Kept.alloc | apply Kept.drewN | apply Kept.drew) | exact HK.out)) hb); have n2_ := zM (zQ zb hb); have n3_ := zM (hbox); have n4_ := zM ((by rw [hg]; exact (by first | exact HK.out.1 | exact (show Kept w _ (fun k_ => P0_ k_) from by repeat (first | (with_reducible first | exact HK.out | apply Kept.alloc | apply Kept.drewN | apply Kept.drew) | exact HK.out)).1) : w.heap.size ≤ gb178)); have n5_ := zM ((by rw [hg]; exact (zR zb) : w0.heap.size ≤ gb178)); clear HO0; clear HK; clear HB; have HO0 := n0_; have HK := n1_; have HB := n2_; have BK178 := n3_; have GW178 := n4_; have GE178 := n5_; clear n0_ n1_ n2_ n3_ n4_ n5_; clear hb hbox hg; have hcz6_0 := (z5 BK178.out 0).trans rfl; have hcz6_1 := (z5 BK178.out 1).trans rfl; have hcz6_2 := (z5 BK178.out 2).trans rfl; have hfz6_0 := z6 BK178.out 0; have hfz6_1 := z6 BK178.out 1; have hfz6_2 := z6 BK178.out 2) | ((with_reducible refine gate_callee (f := 89) rfl ?_); refine goesL_ (some 9) rfl rfl Try.func89 (by kernel_rfl) rfl #[.agg #[.int .i64 a2_0, .int .i64 a2_1, .int .i64 a2_2]] rfl zg ?_; (with_reducible refine (spec_ReadsOf.calls k a2_0 a2_1 a2_2 t179 _ A4.out).mono ?_); rintro e w7 ⟨v180, rfl, ho0, hb⟩; refine ⟨_, rfl, ?_⟩; have n0_ := zM (ze (by (with_reducible repeat (first | apply zI | apply zJ | apply zK)); exact HO0.out) hb); have n1_ := zM (zf (Kd.R_newM (M := fun k_ => (P0_ k_ ∨ w.heap.size ≤ k_)) ho0 (by first | exact HK.out.1 | exact (show Kept w _ (fun k_ => P0_ k_) from by repeat (first | (with_reducible first | exact HK.out | apply Kept.alloc | apply Kept.drewN | apply Kept.drew | refine Kept.setCell ?_ (.inr GW178.out) _) | exact HK.out)).1) (fun k_ h_ => .inr h_)) (zR zb)); have n2_ := zM (z7 (g := gb178) (o := .cells #[.int .i64 a2_0, .int .i64 a2_1, .int .i64 a2_2] 37 (0, 0)) zk hb); have n3_ := zM (Kept.below (S := (fun k_ => P0_ k_)) (by repeat (first | (with_reducible first | exact HK.out | apply Kept.alloc | apply Kept.drewN | apply Kept.drew | refine Kept.setCell ?_ (.inr GW178.out) _) | exact HK.out)) hb); have n4_ := zM (zQ zb hb); clear HO0; clear BK178; clear HK; clear HB; have HO0 := n0_; have HO181 := n1_; have BK178 := n2_; have HK := n3_; have HB := n4_; clear n0_ n1_ n2_ n3_ n4_; (try clear hb); (try clear ho0)))
 go_loopg [7] k (fun kq v7 w' => ∃ (x0_1 : List Bool) (x7_1 : Int), v7 = .int .i64 x7_1 ∧ Aside0 (spec_l07Note.l0 kq x0_1 l1 t179 x7_1 = some r) ∧ Aside0 (kq ≤ k) ∧ Aside0 (Kd.R Kd.bool 4 w' w0.heap.size (fun k_ => (P0_ k_ ∨ w.heap.size ≤ k_)) u9000_ x0_1) ∧ Aside0 (Kd.R (Kd.int .i64) 3 w' w0.heap.size (fun k_ => (P0_ k_ ∨ w.heap.size ≤ k_)) v180 t179) ∧ Aside0 (w'.heap[gb178]? = some (.cells #[.int .i64 a2_0, .int .i64 a2_1, .int .i64 a2_2] 37 (0, 0))) ∧ Aside0 (Kept w w' (fun k_ => P0_ k_)) ∧ Aside0 (Below w0.heap.size w0 w'))
 case atStart => exact ⟨(l0), (0), zs, H', ⟨Nat.le_refl _⟩, ⟨by (with_reducible repeat (first | apply zI | apply zJ | apply zK)); exact HO0.out⟩, ⟨by (with_reducible repeat (first | apply zI | apply zJ | apply zK)); exact z1 HO181.out (fun _ hk => hk.1)⟩, ⟨zk⟩, ⟨by repeat (first | (with_reducible first | exact HK.out | apply Kept.alloc | apply Kept.drewN | apply Kept.drew | refine Kept.setCell ?_ (.inr GW178.out) _) | exact HK.out)⟩, ⟨zb⟩⟩
 case round =>
  clear H'
  try clear c1
  try clear p2
  try clear c6
  try clear hcz6_0
  try clear hcz6_1
  try clear hcz6_2
  try clear hfz6_0
  try clear hfz6_1
  try clear hfz6_2
  obtain ⟨x0_1, x7_1, rfl, HA, HK1, HO_0, HO_6, BK178, HK, HB⟩ := hrel
  cases gk with
  | zero => exact absurd HA.out (by simp [spec_l07Note.l0])
  | succ k1 =>
   have H := HA.out
   clear HA
   simp only [spec_l07Note.l0] at H
   by_cases c8 : x7_1 < (t179.length : Int)
   ·rw [if_pos c8] at H
    have c8b0 : decide (x7_1 < (t179.length : Int)) = true := decide_eq_true c8
    clear c8
    by_cases c9 : 0 ≤ x7_1
    ·rw [if_pos c9] at H
     have c9b0 : decide (0 ≤ x7_1) = true := decide_eq_true c9
     clear c9
     by_cases c10 : 0 ≤ (rd t179 x7_1)
     ·rw [if_pos c10] at H
      have c10b0 : decide (0 ≤ (rd t179 x7_1)) = true := decide_eq_true c10
      clear c10
      by_cases c11 : (rd t179 x7_1) < (l1.length : Int)
      ·rw [if_pos c11] at H
       have c11b0 : decide ((rd t179 x7_1) < (l1.length : Int)) = true := decide_eq_true c11
       clear c11
       obtain ⟨bq12, hbq12⟩ : ∃ b_ : Bool, b_ = (rdOf false l1 (rd t179 x7_1)) := ⟨_, rfl⟩
       replace H : (if (bq12 = true) then (spec_l07Note.l0 k1 x0_1 l1 t179 (wrap64 (x7_1 + 1))) else (if (rd t179 x7_1) < (x0_1.length : Int) then (spec_l07Note.l0 k1 (x0_1.set ((rd t179 x7_1) : Int).toNat true) l1 t179 (wrap64 (x7_1 + 1))) else (none))) = some r := by rw [← hbq12] at H; exact H
       have Nbq12 := zM hbq12
       clear hbq12
       by_cases c13 : (bq12 = true)
       ·subst c13
        have H1 : (spec_l07Note.l0 k1 x0_1 l1 t179 (wrap64 (x7_1 + 1))) = some r := by rw [if_pos rfl] at H; exact H
        clear H
        have H := H1
        clear H1
        have H' := zM H
        clear H
        obtain ⟨Ao14, co14, eo14⟩ := Kd.R_slice HO_6.out
        subst eo14
        have p182 : 0 ≤ (x7_1 : Int) := zd
        have q182 : x7_1 < (t179.length : Int) := zd
        obtain ⟨ad182, e182, hx182_0⟩ := Kd.at_int (z9 HO_6.out).2.2 x7_1 p182 q182
        cases e182
        replace p182 := eq_true p182
        replace q182 := eq_true q182
        have p183 : 0 ≤ ((rd t179 x7_1) : Int) := zd
        have q183 : (rd t179 x7_1) < (l1.length : Int) := zd
        obtain ⟨ad183, e183, hx183_0⟩ := Kd.at_bool (Kd.C_kept_now HR1.out HK.out) (rd t179 x7_1) p183 q183
        (try rw [← Nbq12.out] at hx183_0)
        cases e183
        replace p183 := eq_true p183
        replace q183 := eq_true q183
        go_wp2
        go_roundg k1
        case measure => have := HK1.out; omega
        case rel => exact ⟨(x0_1), (wrap64 (x7_1 + 1)), zs, H', ⟨by have := HK1.out; omega⟩, ⟨by (with_reducible repeat (first | apply zI | apply zJ | apply zK)); exact HO_0.out⟩, ⟨by (with_reducible repeat (first | apply zI | apply zJ | apply zK)); exact HO_6.out⟩, ⟨zk⟩, ⟨by repeat (first | (with_reducible first | exact HK.out | apply Kept.alloc | apply Kept.drewN | apply Kept.drew | refine Kept.setCell ?_ (.inr GW178.out) _) | exact HK.out)⟩, ⟨zb⟩⟩
       ·replace c13 := Bool.eq_false_iff.mpr c13
        subst c13
        have H1 : (if (rd t179 x7_1) < (x0_1.length : Int) then (spec_l07Note.l0 k1 (x0_1.set ((rd t179 x7_1) : Int).toNat true) l1 t179 (wrap64 (x7_1 + 1))) else (none)) = some r := by rw [if_neg (show ¬ (false = true) by decide)] at H; exact H
        clear H
        have H := H1
        clear H1
        by_cases c15 : (rd t179 x7_1) < (x0_1.length : Int)
        ·rw [if_pos c15] at H
         have c15b0 : decide ((rd t179 x7_1) < (x0_1.length : Int)) = true := decide_eq_true c15
         clear c15
         obtain ⟨y185, hyq⟩ : ∃ y_ : List Bool, y_ = (x0_1.set ((rd t179 x7_1) : Int).toNat true) := ⟨_, rfl⟩
         replace H : (spec_l07Note.l0 k1 y185 l1 t179 (wrap64 (x7_1 + 1))) = some r := zh
         have Ny185 := zM hyq
         clear hyq
         have H' := zM H
         clear H
         obtain ⟨Ao17, co17, eo17⟩ := Kd.R_slice HO_6.out
         subst eo17
         have p182 : 0 ≤ (x7_1 : Int) := zd
         have q182 : x7_1 < (t179.length : Int) := zd
         obtain ⟨ad182, e182, hx182_0⟩ := Kd.at_int (z9 HO_6.out).2.2 x7_1 p182 q182
         cases e182
         replace p182 := eq_true p182
         replace q182 := eq_true q182
         have p183 : 0 ≤ ((rd t179 x7_1) : Int) := zd
         have q183 : (rd t179 x7_1) < (l1.length : Int) := zd
         obtain ⟨ad183, e183, hx183_0⟩ := Kd.at_bool (Kd.C_kept_now HR1.out HK.out) (rd t179 x7_1) p183 q183
         (try rw [← Nbq12.out] at hx183_0)
         cases e183
         replace p183 := eq_true p183
         replace q183 := eq_true q183
         have p184 : 0 ≤ (x7_1 : Int) := zd
         have q184 : x7_1 < (t179.length : Int) := zd
         obtain ⟨ad184, e184, hx184_0⟩ := Kd.at_int (z9 HO_6.out).2.2 x7_1 p184 q184
         obtain rfl : ad182 = ad184 := (by injection e184)
         replace p184 := eq_true p184
         replace q184 := eq_true q184
         have p16 : 0 ≤ ((rd t179 x7_1) : Int) := zd
         have q16 : ((rd t179 x7_1) : Int) < ((x0_1.length : Int) : Int) := zd
         obtain ⟨go16, co16, eo16, gb16, gl16, cl16, HG16⟩ := Kd.R_form HO_0.out (by omega)
         (first | cases eo16 | (injection eo16 with ea_ en_ ec_; (first | subst ea_ | (injection ea_ with ea_; subst ea_)); subst ec_; clear en_))
         have GB16 := zM gb16
         have GG16 := zM HG16
         clear gb16 gl16 HG16
         have HMgo16 := zM (show (P0_ go16 ∨ w.heap.size ≤ go16) from (HO_0.out.1 _ rfl))
         obtain ⟨hx16_0, hf16_0⟩ := Kd.R_celln false HO_0.out ((rd t179 x7_1) : Int) p16 q16
         replace p16 := eq_true p16
         replace q16 := eq_true q16
         have HP18 := Kd.R_putg HO_0.out ((rd t179 x7_1) : Int) true
         go_wp2_with (first | ((with_reducible refine gate_store (t := 4) (p := 29) rfl ?_); refine store_event (t := 4) (p := 29) (v := ?vo_w19) (w1 := (wr.setCell ⟨go16, ((rd t179 x7_1) : Int).toNat, none⟩ (.bool true))) ?hg ?ho ?hn ?hr ?_; (case ho => rfl); (case hg => rfl); (case hn => rfl); (case hr => first | (go_simp; done) | (go_simp; rfl)); intro w19 hw; have hg : wr.grownBy w19 (some go16) := (by rw [hw]; exact HP18.2); have hp_ : Kd.R Kd.bool 4 w19 w0.heap.size (fun k_ => (P0_ k_ ∨ w.heap.size ≤ k_)) (.slice (some ⟨go16, 0, none⟩) x0_1.length co16) y185 := (by rw [hw, Ny185.out]; exact HP18.1); clear HP18; have n0_ := zM (hp_); have n1_ := zM (Kd.R_over' (v := (.slice (some ⟨go16, 0, none⟩) x0_1.length co16)) (by (with_reducible repeat (first | apply zI | apply zJ | apply zK)); exact HO_6.out) (Kd.R_typed HO_0.out) (by decide) hg); have n2_ := zM (blk_grown (g := gb178) (o := .cells #[.int .i64 a2_0, .int .i64 a2_1, .int .i64 a2_2] 37 (0, 0)) zk hg (Kd.R_ne HO_0.out BK178.out (by decide))); have n3_ := zM ((by rw [hw]; exact zS (HB.out) GB16.out : Below w0.heap.size w0 w19)); have n4_ := zM (Kept.of_grown (S := (fun k_ => P0_ k_)) hg (by repeat (first | (with_reducible first | exact HK.out | apply Kept.alloc | apply Kept.drewN | apply Kept.drew | refine Kept.setCell ?_ (.inr GW178.out) _) | exact HK.out)) (fun k_ e_ => (HO_0.out.1 k_ e_))); clear HO_0; clear HO_6; clear BK178; clear HB; clear HK; have HO_0 := n0_; have HO_6 := n1_; have BK178 := n2_; have HB := n3_; have HK := n4_; clear n0_ n1_ n2_ n3_ n4_; clear hg hw hp_))
         go_roundg k1
         case measure => have := HK1.out; omega
         case rel => exact ⟨(y185), (wrap64 (x7_1 + 1)), zs, H', ⟨by have := HK1.out; omega⟩, ⟨by (with_reducible repeat (first | apply zI | apply zJ | apply zK)); exact HO_0.out⟩, ⟨by (with_reducible repeat (first | apply zI | apply zJ | apply zK)); exact HO_6.out⟩, ⟨zk⟩, ⟨by repeat (first | (with_reducible first | exact HK.out | apply Kept.alloc | apply Kept.drewN | apply Kept.drew | refine Kept.setCell ?_ (.inr GW178.out) _) | exact HK.out)⟩, ⟨zb⟩⟩
        ·rw [if_neg c15] at H
         exact absurd H (by simp)
      ·rw [if_neg c11] at H
       exact absurd H (by simp)
     ·rw [if_neg c10] at H
      exact absurd H (by simp)
    ·rw [if_neg c9] at H
     exact absurd H (by simp)
   ·rw [if_neg c8] at H
    have c8b0 : decide (x7_1 < (t179.length : Int)) = false := decide_eq_false c8
    clear c8
    obtain rfl := Option.some.inj H
    obtain ⟨Ao20, co20, eo20⟩ := Kd.R_slice HO_6.out
    subst eo20
    go_wp2
    first | go_end0 | ((try simp only [Exit.inBlock, Exit.then]); refine bodyPost_ret (results_none rfl _ _ _) rfl ?_)
    exact ⟨by first | rfl | (simp [errW_none, errW_some] <;> rfl) | (simp [*, errW_none, errW_some] <;> rfl), by (with_reducible repeat (first | apply zI | apply zJ | apply zK)); exact HO_0.out, zb, by repeat (first | (with_reducible first | exact HK.out | apply Kept.alloc | apply Kept.drewN | apply Kept.drew | refine Kept.setCell ?_ (.inr GW178.out) _) | exact HK.out)⟩

/-! ### spec_l07Pass: function 60 -/
mutual
def spec_l07Pass.l0 : Nat → List (S39) → Int → List Bool → List Bool → Int → Option (List Bool × List Bool)
 | 0, _, _, _, _, _ => none
 | k + 1, x0, x2, x3, x4, x10 => if x10 < x2 then (if 0 ≤ x10 then (if x10 < (x0.length : Int) then (if ((rd_T39 x0 x10).f0) = 1 then ((spec_l07Note.f k x4 x3 ((rd_T39 x0 x10).f3.f0) ((rd_T39 x0 x10).f3.f1) ((rd_T39 x0 x10).f3.f2)).bind fun t188 => (if 0 ≤ ((rd_T39 x0 x10).f1) then (if ((rd_T39 x0 x10).f1) < (x3.length : Int) then (spec_l07Pass.l0 k x0 x2 (x3.set (((rd_T39 x0 x10).f1) : Int).toNat true) t188 (wrap64 (x10 + 1))) else (none)) else (none))) else (if ((rd_T39 x0 x10).f0) = 2 then (if 0 ≤ ((rd_T39 x0 x10).f1) then (if ((rd_T39 x0 x10).f1) < (x3.length : Int) then (spec_l07Pass.l0 k x0 x2 (x3.set (((rd_T39 x0 x10).f1) : Int).toNat true) x4 (wrap64 (x10 + 1))) else (none)) else (none)) else (if ((rd_T39 x0 x10).f0) = 3 then ((spec_l07Note.f k x4 x3 ((rd_T39 x0 x10).f3.f0) ((rd_T39 x0 x10).f3.f1) ((rd_T39 x0 x10).f3.f2)).bind fun t191 => (spec_l07Pass.l0 k x0 x2 x3 t191 (wrap64 (x10 + 1)))) else (if ((rd_T39 x0 x10).f0) = 4 then ((spec_l07Note.f k x4 x3 ((rd_T39 x0 x10).f3.f0) ((rd_T39 x0 x10).f3.f1) ((rd_T39 x0 x10).f3.f2)).bind fun t192 => ((spec_l05End.f k x0 x10).bind fun t193 => ((some (([] : List Bool) : List Bool)).bind fun y194 => (if y194.length + x3.length < 140737488355328 then ((spec_l07Pass.f k x0 (wrap64 (x10 + 1)) t193 (y194 ++ x3) t192).bind fun bt200 => (spec_l07Pass.l0 k x0 x2 x3 bt200.2 (wrap64 (t193 + 1)))) else (none))))) else (if ((rd_T39 x0 x10).f0) = 5 then ((spec_l05End.f k x0 x10).bind fun t202 => ((spec_l07Pass.f k x0 (wrap64 (x10 + 1)) t202 x3 x4).bind fun bt203 => (spec_l07Pass.l0 k x0 x2 bt203.1 bt203.2 (wrap64 (t202 + 1))))) else (spec_l07Pass.l0 k x0 x2 x3 x4 (wrap64 (x10 + 1)))))))) else (none)) else (none)) else (some (x3, x4))
def spec_l07Pass.f : Nat → List (S39) → Int → Int → List Bool → List Bool → Option (List Bool × List Bool)
 | 0, _, _, _, _, _ => none
 | k + 1, l0, a1, a2, l3, l4 => spec_l07Pass.l0 k l0 a2 l3 l4 a1
end
theorem spec_l07Pass.mono_l : ∀ k, (∀ y0 y1 y2 y3 y4, LeO (spec_l07Pass.f k y0 y1 y2 y3 y4) (spec_l07Pass.f (k + 1) y0 y1 y2 y3 y4)) ∧ (∀ y0 y1 y2 y3 y4, LeO (spec_l07Pass.l0 k y0 y1 y2 y3 y4) (spec_l07Pass.l0 (k + 1) y0 y1 y2 y3 y4))
 | 0 => ⟨fun _ _ _ _ _ r h => by simp [spec_l07Pass.f] at h, fun _ _ _ _ _ r h => by simp [spec_l07Pass.l0] at h⟩
 | k + 1 => by
  obtain ⟨ih0, ih1⟩ := spec_l07Pass.mono_l k
  refine ⟨?_, ?_⟩
  ·intro y0 y1 y2 y3 y4
   unfold spec_l07Pass.f
   repeat' first
   | (with_reducible exact ih0 _ _ _ _ _)
   | (with_reducible exact ih1 _ _ _ _ _)
   | (with_reducible exact spec_l05End.mono _ _ _)
   | (with_reducible exact spec_l07Note.mono _ _ _ _ _ _)
   | (with_reducible exact LeO.refl _)
   | (with_reducible exact LeO.none _)
   | (with_reducible refine LeO.ite ?_ ?_)
   | (with_reducible refine LeO.bind ?_ (fun _ => ?_))
   | exact ih0 _ _ _ _ _
   | exact ih1 _ _ _ _ _
   | exact spec_l05End.mono _ _ _
   | exact spec_l07Note.mono _ _ _ _ _ _
   | exact LeO.none _
   | refine LeO.ite ?_ ?_
   | refine LeO.bind ?_ (fun _ => ?_)
  ·intro y0 y1 y2 y3 y4
   unfold spec_l07Pass.l0
   repeat' first
   | (with_reducible exact ih0 _ _ _ _ _)
   | (with_reducible exact ih1 _ _ _ _ _)
   | (with_reducible exact spec_l05End.mono _ _ _)
   | (with_reducible exact spec_l07Note.mono _ _ _ _ _ _)
   | (with_reducible exact LeO.refl _)
   | (with_reducible exact LeO.none _)
   | (with_reducible refine LeO.ite ?_ ?_)
   | (with_reducible refine LeO.bind ?_ (fun _ => ?_))
   | exact ih0 _ _ _ _ _
   | exact ih1 _ _ _ _ _
   | exact spec_l05End.mono _ _ _
   | exact spec_l07Note.mono _ _ _ _ _ _
   | exact LeO.none _
   | refine LeO.ite ?_ ?_
   | refine LeO.bind ?_ (fun _ => ?_)
theorem spec_l07Pass.mono : ∀ a0 a1 a2 a3 a4 k, LeO (spec_l07Pass.f k a0 a1 a2 a3 a4) (spec_l07Pass.f (k + 1) a0 a1 a2 a3 a4) := by
 intro a0 a1 a2 a3 a4 k
 obtain ⟨ih0, ih1⟩ := spec_l07Pass.mono_l k
 exact ih0 a0 a1 a2 a3 a4
set_option maxHeartbeats 8000000 in
set_option maxRecDepth 100000 in
theorem spec_l07Pass.calls (k : Nat) : ∀ (A0 : Option Addr) (c0 : Nat) (l0 : List (S39)) (a1 : Int) (a2 : Int) (P3_ : Nat → Prop) (u9000_ : Value) (l3 : List Bool) (P4_ : Nat → Prop) (u9001_ : Value) (l4 : List Bool) (r1 : List Bool) (r2 : List Bool) (w0 w : World) (hB : Below w0.heap.size w0 w) (hr0 : ∀ W_, Kept w W_ (fun k_ => P3_ k_ ∨ P4_ k_) → Kd.C k39 W_ A0 l0.length l0) (hc0 : l0.length ≤ c0) (ho3 : Kd.R Kd.bool 4 w w0.heap.size P3_ u9000_ l3) (hp3_4 : ∀ k_, P3_ k_ → ¬ P4_ k_) (ho4 : Kd.R Kd.bool 4 w w0.heap.size P4_ u9001_ l4) (hp4_3 : ∀ k_, P4_ k_ → ¬ P3_ k_) (h : spec_l07Pass.f k l0 a1 a2 l3 l4 = some (r1, r2)),
  Calls Try.prog 60 #[.slice A0 l0.length c0, .int .i64 a1, .int .i64 a2, u9000_, u9001_] w fun e w' => e = .returned (.tuple #[]) ∧ Kd.R Kd.bool 4 w' w0.heap.size (fun k_ => ((P3_ k_ ∨ P4_ k_) ∨ w.heap.size ≤ k_)) u9000_ r1 ∧ Kd.R Kd.bool 4 w' w0.heap.size (fun k_ => ((P3_ k_ ∨ P4_ k_) ∨ w.heap.size ≤ k_)) u9001_ r2 ∧ Below w0.heap.size w0 w' ∧ Kept w w' (fun k_ => P3_ k_ ∨ P4_ k_) := by
 induction k using Nat.strongRecOn with
 | _ k ih =>
 intro A0 c0 l0 a1 a2 P3_ u9000_ l3 P4_ u9001_ l4 r1 r2 w0 w hB hr0 hc0 ho3 hp3_4 ho4 hp4_3 h
 cases k with
 | zero => exact absurd h (by simp [spec_l07Pass.f])
 | succ k =>
 simp only [spec_l07Pass.f] at h
 have hu39 := Try.underlying39
 have hu37 := Try.underlying37
 have HR0 := zM hr0
 have HC0 := zM hc0
 clear hr0 hc0
 have HO3 := zM (show Kd.R Kd.bool 4 w w0.heap.size (fun k_ => ((P3_ k_ ∨ P4_ k_) ∨ w.heap.size ≤ k_) ∧ some k_ ≠ (u9001_ : Value).ownBlock) u9000_ l3 from z1 ho3 (fun k_ hk => ⟨(.inl (.inl hk)), fun e_ => hp3_4 k_ hk (ho4.1 k_ e_.symm)⟩))
 have HO4 := zM (show Kd.R Kd.bool 4 w w0.heap.size (fun k_ => ((P3_ k_ ∨ P4_ k_) ∨ w.heap.size ≤ k_) ∧ some k_ ≠ (u9000_ : Value).ownBlock) u9001_ l4 from z1 ho4 (fun k_ hk => ⟨(.inl (.inr hk)), fun e_ => hp4_3 k_ hk (ho3.1 k_ e_.symm)⟩))
 have HK := zM (Kept.refl w (fun k_ => P3_ k_ ∨ P4_ k_))
 have HW0 := zM hB.size
 have HB := zM hB
 clear hB
 have H : (spec_l07Pass.l0 k l0 a2 l3 l4 a1) = some (r1, r2) := h
 clear h
 have H' := zM H
 clear H
 go_enter Try.func60, Try.ntmps60
 go_wp2
 go_loopg [10] k (fun kq v10 w' => ∃ (x3_1 : List Bool) (x4_1 : List Bool) (x10_1 : Int), v10 = .int .i64 x10_1 ∧ Aside0 (spec_l07Pass.l0 kq l0 a2 x3_1 x4_1 x10_1 = some (r1, r2)) ∧ Aside0 (kq ≤ k) ∧ Aside0 (Kd.R Kd.bool 4 w' w0.heap.size (fun k_ => ((P3_ k_ ∨ P4_ k_) ∨ w.heap.size ≤ k_) ∧ some k_ ≠ (u9001_ : Value).ownBlock) u9000_ x3_1) ∧ Aside0 (Kd.R Kd.bool 4 w' w0.heap.size (fun k_ => ((P3_ k_ ∨ P4_ k_) ∨ w.heap.size ≤ k_) ∧ some k_ ≠ (u9000_ : Value).ownBlock) u9001_ x4_1) ∧ Aside0 (Kept w w' (fun k_ => P3_ k_ ∨ P4_ k_)) ∧ Aside0 (Below w0.heap.size w0 w'))
 case atStart => exact ⟨(l3), (l4), (a1), zs, H', ⟨Nat.le_refl _⟩, ⟨by (with_reducible repeat (first | apply zI | apply zJ | apply zK)); exact HO3.out⟩, ⟨by (with_reducible repeat (first | apply zI | apply zJ | apply zK)); exact HO4.out⟩, ⟨by repeat (first | (with_reducible first | exact HK.out | apply Kept.alloc | apply Kept.drewN | apply Kept.drew) | exact HK.out)⟩, ⟨zb⟩⟩
 case round =>
  clear H'
  try clear p2
  try clear p3
  try clear p4
  obtain ⟨x3_1, x4_1, x10_1, rfl, HA, HK1, HO_3, HO_4, HK, HB⟩ := hrel
  cases gk with
  | zero => exact absurd HA.out (by simp [spec_l07Pass.l0])
  | succ k1 =>
   have H := HA.out
   clear HA
   simp only [spec_l07Pass.l0] at H
   by_cases c6 : x10_1 < a2
   ·rw [if_pos c6] at H
    have c6b0 : decide (x10_1 < a2) = true := decide_eq_true c6
    clear c6
    by_cases c7 : 0 ≤ x10_1
    ·rw [if_pos c7] at H
     have c7b0 : decide (0 ≤ x10_1) = true := decide_eq_true c7
     clear c7
     by_cases c8 : x10_1 < (l0.length : Int)
     ·rw [if_pos c8] at H
      have c8b0 : decide (x10_1 < (l0.length : Int)) = true := decide_eq_true c8
      clear c8
      by_cases c9 : ((rd_T39 l0 x10_1).f0) = 1
      ·rw [if_pos c9] at H
       have c9b0 : (((rd_T39 l0 x10_1).f0) == 1) = true := beq_iff_eq.mpr c9
       have c9b1 : (((rd_T39 l0 x10_1).f0) != 1) = false := bne_eq_false_iff_eq.mpr c9
       clear c9
       replace H := Option.bind_eq_some_iff.mp H
       obtain ⟨t188, A100, H⟩ := H
       replace H : (if 0 ≤ ((rd_T39 l0 x10_1).f1) then (if ((rd_T39 l0 x10_1).f1) < (x3_1.length : Int) then (spec_l07Pass.l0 k1 l0 a2 (x3_1.set (((rd_T39 l0 x10_1).f1) : Int).toNat true) t188 (wrap64 (x10_1 + 1))) else (none)) else (none)) = some (r1, r2) := H
       have A10 := zM A100
       clear A100
       by_cases c11 : 0 ≤ ((rd_T39 l0 x10_1).f1)
       ·rw [if_pos c11] at H
        have c11b0 : decide (0 ≤ ((rd_T39 l0 x10_1).f1)) = true := decide_eq_true c11
        clear c11
        by_cases c12 : ((rd_T39 l0 x10_1).f1) < (x3_1.length : Int)
        ·rw [if_pos c12] at H
         have c12b0 : decide (((rd_T39 l0 x10_1).f1) < (x3_1.length : Int)) = true := decide_eq_true c12
         clear c12
         obtain ⟨y189, hyq⟩ : ∃ y_ : List Bool, y_ = (x3_1.set (((rd_T39 l0 x10_1).f1) : Int).toNat true) := ⟨_, rfl⟩
         replace H : (spec_l07Pass.l0 k1 l0 a2 y189 t188 (wrap64 (x10_1 + 1))) = some (r1, r2) := zh
         have Ny189 := zM hyq
         clear hyq
         have H' := zM H
         clear H
         have p186 : 0 ≤ (x10_1 : Int) := zd
         have q186 : x10_1 < (l0.length : Int) := zd
         obtain ⟨ad186, e186, hx186_0, hx186_1, hx186_2, hx186_3, hx186_4, hx186_5⟩ := at_T39 (Kd.C_kept_now HR0.out HK.out) x10_1 p186 q186
         cases e186
         replace p186 := eq_true p186
         replace q186 := eq_true q186
         go_wp2_with (first | ((with_reducible refine gate_dst (N := 11) rfl ?_); refine box_event ?hg (N := 11) ?hd (cs := #[.int .i64 0, .int .i64 0, .int .i64 0, .int .i64 0, .int .i64 0, .int .i64 0]) (t := 39) ?hr ?_; (case hd => rfl); (case hg => rfl); (case hr => first | (go_simp; done) | (go_simp; rfl)); intro gb187 hg w14 hbox hb; have n0_ := zM (ze (by (with_reducible repeat (first | apply zI | apply zJ | apply zK)); exact HO_3.out) hb); have n1_ := zM (ze (by (with_reducible repeat (first | apply zI | apply zJ | apply zK)); exact HO_4.out) hb); have n2_ := zM (Kept.below (S := (fun k_ => P3_ k_ ∨ P4_ k_)) (by repeat (first | (with_reducible first | exact HK.out | apply Kept.alloc | apply Kept.drewN | apply Kept.drew) | exact HK.out)) hb); have n3_ := zM (zQ zb hb); have n4_ := zM (hbox); have n5_ := zM ((by rw [hg]; exact (by first | exact HK.out.1 | exact (show Kept w _ (fun k_ => P3_ k_ ∨ P4_ k_) from by repeat (first | (with_reducible first | exact HK.out | apply Kept.alloc | apply Kept.drewN | apply Kept.drew) | exact HK.out)).1) : w.heap.size ≤ gb187)); have n6_ := zM ((by rw [hg]; exact (zR zb) : w0.heap.size ≤ gb187)); clear HO_3; clear HO_4; clear HK; clear HB; have HO_3 := n0_; have HO_4 := n1_; have HK := n2_; have HB := n3_; have BK187 := n4_; have GW187 := n5_; have GE187 := n6_; clear n0_ n1_ n2_ n3_ n4_ n5_ n6_; clear hb hbox hg; have hcz15_0 := (z5 BK187.out 0).trans rfl; have hcz15_1 := (z5 BK187.out 1).trans rfl; have hcz15_2 := (z5 BK187.out 2).trans rfl; have hcz15_3 := (z5 BK187.out 3).trans rfl; have hcz15_4 := (z5 BK187.out 4).trans rfl; have hcz15_5 := (z5 BK187.out 5).trans rfl; have hfz15_0 := z6 BK187.out 0; have hfz15_1 := z6 BK187.out 1; have hfz15_2 := z6 BK187.out 2; have hfz15_3 := z6 BK187.out 3; have hfz15_4 := z6 BK187.out 4; have hfz15_5 := z6 BK187.out 5) | ((with_reducible refine gate_store (t := 39) (p := 11) rfl ?_); refine store_event (t := 39) (p := 11) (v := ?vo_w16) (w1 := ((((((w14.setCell ⟨gb187, 0, none⟩ (.int .i64 ((rd_T39 l0 x10_1).f0))).setCell ⟨gb187, 1, none⟩ (.int .i64 ((rd_T39 l0 x10_1).f1))).setCell ⟨gb187, 2, none⟩ (.int .i64 ((rd_T39 l0 x10_1).f2))).setCell ⟨gb187, 3, none⟩ (.int .i64 ((rd_T39 l0 x10_1).f3.f0))).setCell ⟨gb187, 4, none⟩ (.int .i64 ((rd_T39 l0 x10_1).f3.f1))).setCell ⟨gb187, 5, none⟩ (.int .i64 ((rd_T39 l0 x10_1).f3.f2)))) ?hg ?ho ?hn ?hr ?_; (case ho => rfl); (case hg => rfl); (case hn => rfl); (case hr => first | (go_simp; done) | (go_simp; rfl)); intro w16 hw; have n0_ : Aside0 (Kd.R Kd.bool 4 w16 w0.heap.size (fun k_ => ((P3_ k_ ∨ P4_ k_) ∨ w.heap.size ≤ k_) ∧ some k_ ≠ (u9001_ : Value).ownBlock) u9000_ x3_1) := ⟨(by rw [hw]; exact (by (with_reducible repeat (first | apply zI | apply zJ | apply zK)); exact z1 (zc (p := ⟨gb187, 5, none⟩) (zc (p := ⟨gb187, 4, none⟩) (zc (p := ⟨gb187, 3, none⟩) (zc (p := ⟨gb187, 2, none⟩) (zc (p := ⟨gb187, 1, none⟩) (zc (p := ⟨gb187, 0, none⟩) (Kd.R_types HO_3.out BK187.out (by decide)) (fun _ hk => hk.2) (.int .i64 ((rd_T39 l0 x10_1).f0))) (fun _ hk => hk.2) (.int .i64 ((rd_T39 l0 x10_1).f1))) (fun _ hk => hk.2) (.int .i64 ((rd_T39 l0 x10_1).f2))) (fun _ hk => hk.2) (.int .i64 ((rd_T39 l0 x10_1).f3.f0))) (fun _ hk => hk.2) (.int .i64 ((rd_T39 l0 x10_1).f3.f1))) (fun _ hk => hk.2) (.int .i64 ((rd_T39 l0 x10_1).f3.f2))) (fun _ hk => ⟨hk.1.1, hk.1.2⟩)))⟩; have n1_ : Aside0 (Kd.R Kd.bool 4 w16 w0.heap.size (fun k_ => ((P3_ k_ ∨ P4_ k_) ∨ w.heap.size ≤ k_) ∧ some k_ ≠ (u9000_ : Value).ownBlock) u9001_ x4_1) := ⟨(by rw [hw]; exact (by (with_reducible repeat (first | apply zI | apply zJ | apply zK)); exact z1 (zc (p := ⟨gb187, 5, none⟩) (zc (p := ⟨gb187, 4, none⟩) (zc (p := ⟨gb187, 3, none⟩) (zc (p := ⟨gb187, 2, none⟩) (zc (p := ⟨gb187, 1, none⟩) (zc (p := ⟨gb187, 0, none⟩) (Kd.R_types HO_4.out BK187.out (by decide)) (fun _ hk => hk.2) (.int .i64 ((rd_T39 l0 x10_1).f0))) (fun _ hk => hk.2) (.int .i64 ((rd_T39 l0 x10_1).f1))) (fun _ hk => hk.2) (.int .i64 ((rd_T39 l0 x10_1).f2))) (fun _ hk => hk.2) (.int .i64 ((rd_T39 l0 x10_1).f3.f0))) (fun _ hk => hk.2) (.int .i64 ((rd_T39 l0 x10_1).f3.f1))) (fun _ hk => hk.2) (.int .i64 ((rd_T39 l0 x10_1).f3.f2))) (fun _ hk => ⟨hk.1.1, hk.1.2⟩)))⟩; have n2_ : Aside0 (w16.heap[gb187]? = some (.cells #[.int .i64 ((rd_T39 l0 x10_1).f0), .int .i64 ((rd_T39 l0 x10_1).f1), .int .i64 ((rd_T39 l0 x10_1).f2), .int .i64 ((rd_T39 l0 x10_1).f3.f0), .int .i64 ((rd_T39 l0 x10_1).f3.f1), .int .i64 ((rd_T39 l0 x10_1).f3.f2)] 39 (0, 0))) := ⟨(by rw [hw]; exact (by (with_reducible repeat (first | refine zN ?_ _ | refine zO ?_ | refine zP ?_ _)); refine blk_put (cs := #[.int .i64 ((rd_T39 l0 x10_1).f0), .int .i64 ((rd_T39 l0 x10_1).f1), .int .i64 ((rd_T39 l0 x10_1).f2), .int .i64 ((rd_T39 l0 x10_1).f3.f0), .int .i64 ((rd_T39 l0 x10_1).f3.f1), .int .i64 0]) ?_ 5 _ rfl; (with_reducible repeat (first | refine zN ?_ _ | refine zO ?_ | refine zP ?_ _)); refine blk_put (cs := #[.int .i64 ((rd_T39 l0 x10_1).f0), .int .i64 ((rd_T39 l0 x10_1).f1), .int .i64 ((rd_T39 l0 x10_1).f2), .int .i64 ((rd_T39 l0 x10_1).f3.f0), .int .i64 0, .int .i64 0]) ?_ 4 _ rfl; (with_reducible repeat (first | refine zN ?_ _ | refine zO ?_ | refine zP ?_ _)); refine blk_put (cs := #[.int .i64 ((rd_T39 l0 x10_1).f0), .int .i64 ((rd_T39 l0 x10_1).f1), .int .i64 ((rd_T39 l0 x10_1).f2), .int .i64 0, .int .i64 0, .int .i64 0]) ?_ 3 _ rfl; (with_reducible repeat (first | refine zN ?_ _ | refine zO ?_ | refine zP ?_ _)); refine blk_put (cs := #[.int .i64 ((rd_T39 l0 x10_1).f0), .int .i64 ((rd_T39 l0 x10_1).f1), .int .i64 0, .int .i64 0, .int .i64 0, .int .i64 0]) ?_ 2 _ rfl; (with_reducible repeat (first | refine zN ?_ _ | refine zO ?_ | refine zP ?_ _)); refine blk_put (cs := #[.int .i64 ((rd_T39 l0 x10_1).f0), .int .i64 0, .int .i64 0, .int .i64 0, .int .i64 0, .int .i64 0]) ?_ 1 _ rfl; (with_reducible repeat (first | refine zN ?_ _ | refine zO ?_ | refine zP ?_ _)); refine blk_put (cs := #[.int .i64 0, .int .i64 0, .int .i64 0, .int .i64 0, .int .i64 0, .int .i64 0]) ?_ 0 _ rfl; (with_reducible repeat (first | refine zN ?_ _ | refine zO ?_ | refine zP ?_ _)); exact BK187.out))⟩; have n3_ : Aside0 (Kept w w16 (fun k_ => P3_ k_ ∨ P4_ k_)) := ⟨(by rw [hw]; exact (by repeat (first | (with_reducible first | exact HK.out | apply Kept.alloc | apply Kept.drewN | apply Kept.drew | refine Kept.setCell ?_ (.inr GW187.out) _) | exact HK.out)))⟩; have n4_ : Aside0 (Below w0.heap.size w0 w16) := ⟨(by rw [hw]; exact zb)⟩; clear hw; clear HO_3; clear HO_4; clear BK187; clear HK; clear HB; have HO_3 := n0_; have HO_4 := n1_; have BK187 := n2_; have HK := n3_; have HB := n4_; clear n0_ n1_ n2_ n3_ n4_; have hcz17_0 := (z5 BK187.out 0).trans rfl; have hcz17_1 := (z5 BK187.out 1).trans rfl; have hcz17_2 := (z5 BK187.out 2).trans rfl; have hcz17_3 := (z5 BK187.out 3).trans rfl; have hcz17_4 := (z5 BK187.out 4).trans rfl; have hcz17_5 := (z5 BK187.out 5).trans rfl; have hfz17_0 := z6 BK187.out 0; have hfz17_1 := z6 BK187.out 1; have hfz17_2 := z6 BK187.out 2; have hfz17_3 := z6 BK187.out 3; have hfz17_4 := z6 BK187.out 4; have hfz17_5 := z6 BK187.out 5; obtain ⟨Ao18, co18, eo18⟩ := Kd.R_slice HO_4.out; subst eo18; obtain ⟨Ao19, co19, eo19⟩ := Kd.R_slice HO_3.out; subst eo19) | ((with_reducible refine gate_callee (f := 61) rfl ?_); refine goesL_ (some 32) rfl rfl Try.func61 (by kernel_rfl) rfl #[.slice Ao18 x4_1.length co18, .slice Ao19 x3_1.length co19, .agg #[.int .i64 ((rd_T39 l0 x10_1).f3.f0), .int .i64 ((rd_T39 l0 x10_1).f3.f1), .int .i64 ((rd_T39 l0 x10_1).f3.f2)]] rfl zg ?_; (with_reducible refine (spec_l07Note.calls k1 (fun k_ => some k_ = (.slice Ao18 x4_1.length co18 : Value).ownBlock) (.slice Ao18 x4_1.length co18) x4_1 _ _ x3_1 ((rd_T39 l0 x10_1).f3.f0) ((rd_T39 l0 x10_1).f3.f1) ((rd_T39 l0 x10_1).f3.f2) t188 w0 _ ?side1 ?side2 ?side3 ?side4 A10.out).mono ?_); (case side1 => repeat (first | (with_reducible first | exact HB.out | apply z2 | apply z3 | apply z4 | refine zS ?_ GE187.out) | exact HB.out)); (case side2 => exact Kd.R_tight rfl HO_4.out); (case side3 => exact Kd.C_kept_own (HO_3.out) (fun k_ hk_ hs_ => (hk_.2) hs_)); (case side4 => exact (z9 HO_3.out).2.1); rintro e w20 ⟨rfl, hy0, hb, hkp⟩; refine ⟨_, rfl, ?_⟩; have n0_ := zM (z1 (ok' := fun k_ => ((P3_ k_ ∨ P4_ k_) ∨ w.heap.size ≤ k_) ∧ some k_ ≠ (.slice Ao18 x4_1.length co18 : Value).ownBlock) (Kd.R_keptB (HO_3.out) hkp (fun k_ hk_ hs_ => (hk_.2) hs_)) (fun k_ hk_ => ⟨hk_.1.1, hk_.1.2⟩)); have n1_ := zM (Kd.R_reok rfl hy0 (fun k_ e_ => HO_4.out.1 k_ e_)); have n2_ := zM (blk_kept zk hkp (fun hs_ => (fun e_ => (Kd.R_ne HO_4.out BK187.out (by decide)) e_) hs_)); have n3_ := zM (Kept.then_ (S := (fun k_ => P3_ k_ ∨ P4_ k_)) (by repeat (first | (with_reducible first | exact HK.out | apply Kept.alloc | apply Kept.drewN | apply Kept.drew | refine Kept.setCell ?_ (.inr GW187.out) _) | exact HK.out)) hkp (fun k_ hs_ => (fun e_ => (HO_4.out.1 k_ e_.symm).1) hs_)); have n4_ := zM (hb); clear HO_3; clear HO_4; clear BK187; clear HK; clear HB; have HO_3 := n0_; have HO_4 := n1_; have BK187 := n2_; have HK := n3_; have HB := n4_; clear n0_ n1_ n2_ n3_ n4_; (try clear hb); (try clear hkp); (try clear hy0); have hcz21_0 := (z5 BK187.out 0).trans rfl; have hcz21_1 := (z5 BK187.out 1).trans rfl; have hcz21_2 := (z5 BK187.out 2).trans rfl; have hcz21_3 := (z5 BK187.out 3).trans rfl; have hcz21_4 := (z5 BK187.out 4).trans rfl; have hcz21_5 := (z5 BK187.out 5).trans rfl; have hfz21_0 := z6 BK187.out 0; have hfz21_1 := z6 BK187.out 1; have hfz21_2 := z6 BK187.out 2; have hfz21_3 := z6 BK187.out 3; have hfz21_4 := z6 BK187.out 4; have hfz21_5 := z6 BK187.out 5; have p13 : 0 ≤ (((rd_T39 l0 x10_1).f1) : Int) := zd; have q13 : (((rd_T39 l0 x10_1).f1) : Int) < ((x3_1.length : Int) : Int) := zd; obtain ⟨go13, co13, eo13, gb13, gl13, cl13, HG13⟩ := Kd.R_form HO_3.out (by omega); (first | cases eo13 | (injection eo13 with ea_ en_ ec_; (first | subst ea_ | (injection ea_ with ea_; subst ea_)); subst ec_; clear en_)); have GB13 := zM gb13; have GG13 := zM HG13; clear gb13 gl13 HG13; have HMgo13 := zM (show ((P3_ go13 ∨ P4_ go13) ∨ w.heap.size ≤ go13) from (HO_3.out.1 _ rfl).1); obtain ⟨hx13_0, hf13_0⟩ := Kd.R_celln false HO_3.out (((rd_T39 l0 x10_1).f1) : Int) p13 q13; replace p13 := eq_true p13; replace q13 := eq_true q13; obtain ⟨hy22_, hz22_⟩ := Kd.R_celln false HO_3.out (((rd_T39 l0 x10_1).f1) : Int) (zd) (zd); have HP22 := Kd.R_putg HO_3.out (((rd_T39 l0 x10_1).f1) : Int) true) | ((with_reducible refine gate_store (t := 4) (p := 36) rfl ?_); refine store_event (t := 4) (p := 36) (v := ?vo_w23) (w1 := (w20.setCell ⟨go13, (((rd_T39 l0 x10_1).f1) : Int).toNat, none⟩ (.bool true))) ?hg ?ho ?hn ?hr ?_; (case ho => rfl); (case hg => rfl); (case hn => rfl); (case hr => first | (go_simp; done) | (go_simp; rfl)); intro w23 hw; have hg : w20.grownBy w23 (some go13) := (by rw [hw]; exact HP22.2); have hp_ : Kd.R Kd.bool 4 w23 w0.heap.size (fun k_ => ((P3_ k_ ∨ P4_ k_) ∨ w.heap.size ≤ k_) ∧ some k_ ≠ (.slice Ao18 x4_1.length co18 : Value).ownBlock) (.slice (some ⟨go13, 0, none⟩) x3_1.length co19) y189 := (by rw [hw, Ny189.out]; exact HP22.1); clear HP22; have n0_ := zM (hp_); have n1_ := zM (Kd.R_after (v := (.slice (some ⟨go13, 0, none⟩) x3_1.length co19)) (v1 := (.slice (some ⟨go13, 0, none⟩) x3_1.length co19)) (ok := (fun k_ => ((P3_ k_ ∨ P4_ k_) ∨ w.heap.size ≤ k_))) (by (with_reducible repeat (first | apply zI | apply zJ | apply zK)); exact HO_4.out) hg (.inl rfl)); have n2_ := zM (blk_grown (g := gb187) (o := .cells #[.int .i64 ((rd_T39 l0 x10_1).f0), .int .i64 ((rd_T39 l0 x10_1).f1), .int .i64 ((rd_T39 l0 x10_1).f2), .int .i64 ((rd_T39 l0 x10_1).f3.f0), .int .i64 ((rd_T39 l0 x10_1).f3.f1), .int .i64 ((rd_T39 l0 x10_1).f3.f2)] 39 (0, 0)) zk hg (Kd.R_ne HO_3.out BK187.out (by decide))); have n3_ := zM ((by rw [hw]; exact zS (HB.out) GB13.out : Below w0.heap.size w0 w23)); have n4_ := zM (Kept.of_grown (S := (fun k_ => P3_ k_ ∨ P4_ k_)) hg (by repeat (first | (with_reducible first | exact HK.out | apply Kept.alloc | apply Kept.drewN | apply Kept.drew | refine Kept.setCell ?_ (.inr GW187.out) _) | exact HK.out)) (fun k_ e_ => (HO_3.out.1 k_ e_).1)); clear HO_3; clear HO_4; clear BK187; clear HB; clear HK; have HO_3 := n0_; have HO_4 := n1_; have BK187 := n2_; have HB := n3_; have HK := n4_; clear n0_ n1_ n2_ n3_ n4_; clear hg hw hp_))
         go_roundg k1
         case measure => have := HK1.out; omega
         case rel => exact ⟨(y189), (t188), (wrap64 (x10_1 + 1)), zs, H', ⟨by have := HK1.out; omega⟩, ⟨by (with_reducible repeat (first | apply zI | apply zJ | apply zK)); exact HO_3.out⟩, ⟨by (with_reducible repeat (first | apply zI | apply zJ | apply zK)); exact HO_4.out⟩, ⟨by repeat (first | (with_reducible first | exact HK.out | apply Kept.alloc | apply Kept.drewN | apply Kept.drew | refine Kept.setCell ?_ (.inr GW187.out) _) | exact HK.out)⟩, ⟨zb⟩⟩
        ·rw [if_neg c12] at H
         exact absurd H (by simp)
       ·rw [if_neg c11] at H
        exact absurd H (by simp)
      ·rw [if_neg c9] at H
       have c9b0 : (((rd_T39 l0 x10_1).f0) == 1) = false := beq_eq_false_iff_ne.mpr c9
       have c9b1 : (((rd_T39 l0 x10_1).f0) != 1) = true := bne_iff_ne.mpr c9
       by_cases c24 : ((rd_T39 l0 x10_1).f0) = 2
       ·rw [if_pos c24] at H
        have c24b0 : (((rd_T39 l0 x10_1).f0) == 2) = true := beq_iff_eq.mpr c24
        have c24b1 : (((rd_T39 l0 x10_1).f0) != 2) = false := bne_eq_false_iff_eq.mpr c24
        clear c24
        by_cases c25 : 0 ≤ ((rd_T39 l0 x10_1).f1)
        ·rw [if_pos c25] at H
         have c25b0 : decide (0 ≤ ((rd_T39 l0 x10_1).f1)) = true := decide_eq_true c25
         clear c25
         by_cases c26 : ((rd_T39 l0 x10_1).f1) < (x3_1.length : Int)
         ·rw [if_pos c26] at H
          have c26b0 : decide (((rd_T39 l0 x10_1).f1) < (x3_1.length : Int)) = true := decide_eq_true c26
          clear c26
          obtain ⟨y190, hyq⟩ : ∃ y_ : List Bool, y_ = (x3_1.set (((rd_T39 l0 x10_1).f1) : Int).toNat true) := ⟨_, rfl⟩
          replace H : (spec_l07Pass.l0 k1 l0 a2 y190 x4_1 (wrap64 (x10_1 + 1))) = some (r1, r2) := zh
          have Ny190 := zM hyq
          clear hyq
          have H' := zM H
          clear H
          have p186 : 0 ≤ (x10_1 : Int) := zd
          have q186 : x10_1 < (l0.length : Int) := zd
          obtain ⟨ad186, e186, hx186_0, hx186_1, hx186_2, hx186_3, hx186_4, hx186_5⟩ := at_T39 (Kd.C_kept_now HR0.out HK.out) x10_1 p186 q186
          cases e186
          replace p186 := eq_true p186
          replace q186 := eq_true q186
          go_wp2_with (first | ((with_reducible refine gate_dst (N := 11) rfl ?_); refine box_event ?hg (N := 11) ?hd (cs := #[.int .i64 0, .int .i64 0, .int .i64 0, .int .i64 0, .int .i64 0, .int .i64 0]) (t := 39) ?hr ?_; (case hd => rfl); (case hg => rfl); (case hr => first | (go_simp; done) | (go_simp; rfl)); intro gb187 hg w28 hbox hb; have n0_ := zM (ze (by (with_reducible repeat (first | apply zI | apply zJ | apply zK)); exact HO_3.out) hb); have n1_ := zM (ze (by (with_reducible repeat (first | apply zI | apply zJ | apply zK)); exact HO_4.out) hb); have n2_ := zM (Kept.below (S := (fun k_ => P3_ k_ ∨ P4_ k_)) (by repeat (first | (with_reducible first | exact HK.out | apply Kept.alloc | apply Kept.drewN | apply Kept.drew) | exact HK.out)) hb); have n3_ := zM (zQ zb hb); have n4_ := zM (hbox); have n5_ := zM ((by rw [hg]; exact (by first | exact HK.out.1 | exact (show Kept w _ (fun k_ => P3_ k_ ∨ P4_ k_) from by repeat (first | (with_reducible first | exact HK.out | apply Kept.alloc | apply Kept.drewN | apply Kept.drew) | exact HK.out)).1) : w.heap.size ≤ gb187)); have n6_ := zM ((by rw [hg]; exact (zR zb) : w0.heap.size ≤ gb187)); clear HO_3; clear HO_4; clear HK; clear HB; have HO_3 := n0_; have HO_4 := n1_; have HK := n2_; have HB := n3_; have BK187 := n4_; have GW187 := n5_; have GE187 := n6_; clear n0_ n1_ n2_ n3_ n4_ n5_ n6_; clear hb hbox hg; have hcz29_0 := (z5 BK187.out 0).trans rfl; have hcz29_1 := (z5 BK187.out 1).trans rfl; have hcz29_2 := (z5 BK187.out 2).trans rfl; have hcz29_3 := (z5 BK187.out 3).trans rfl; have hcz29_4 := (z5 BK187.out 4).trans rfl; have hcz29_5 := (z5 BK187.out 5).trans rfl; have hfz29_0 := z6 BK187.out 0; have hfz29_1 := z6 BK187.out 1; have hfz29_2 := z6 BK187.out 2; have hfz29_3 := z6 BK187.out 3; have hfz29_4 := z6 BK187.out 4; have hfz29_5 := z6 BK187.out 5) | ((with_reducible refine gate_store (t := 39) (p := 11) rfl ?_); refine store_event (t := 39) (p := 11) (v := ?vo_w30) (w1 := ((((((w28.setCell ⟨gb187, 0, none⟩ (.int .i64 ((rd_T39 l0 x10_1).f0))).setCell ⟨gb187, 1, none⟩ (.int .i64 ((rd_T39 l0 x10_1).f1))).setCell ⟨gb187, 2, none⟩ (.int .i64 ((rd_T39 l0 x10_1).f2))).setCell ⟨gb187, 3, none⟩ (.int .i64 ((rd_T39 l0 x10_1).f3.f0))).setCell ⟨gb187, 4, none⟩ (.int .i64 ((rd_T39 l0 x10_1).f3.f1))).setCell ⟨gb187, 5, none⟩ (.int .i64 ((rd_T39 l0 x10_1).f3.f2)))) ?hg ?ho ?hn ?hr ?_; (case ho => rfl); (case hg => rfl); (case hn => rfl); (case hr => first | (go_simp; done) | (go_simp; rfl)); intro w30 hw; have n0_ : Aside0 (Kd.R Kd.bool 4 w30 w0.heap.size (fun k_ => ((P3_ k_ ∨ P4_ k_) ∨ w.heap.size ≤ k_) ∧ some k_ ≠ (u9001_ : Value).ownBlock) u9000_ x3_1) := ⟨(by rw [hw]; exact (by (with_reducible repeat (first | apply zI | apply zJ | apply zK)); exact z1 (zc (p := ⟨gb187, 5, none⟩) (zc (p := ⟨gb187, 4, none⟩) (zc (p := ⟨gb187, 3, none⟩) (zc (p := ⟨gb187, 2, none⟩) (zc (p := ⟨gb187, 1, none⟩) (zc (p := ⟨gb187, 0, none⟩) (Kd.R_types HO_3.out BK187.out (by decide)) (fun _ hk => hk.2) (.int .i64 ((rd_T39 l0 x10_1).f0))) (fun _ hk => hk.2) (.int .i64 ((rd_T39 l0 x10_1).f1))) (fun _ hk => hk.2) (.int .i64 ((rd_T39 l0 x10_1).f2))) (fun _ hk => hk.2) (.int .i64 ((rd_T39 l0 x10_1).f3.f0))) (fun _ hk => hk.2) (.int .i64 ((rd_T39 l0 x10_1).f3.f1))) (fun _ hk => hk.2) (.int .i64 ((rd_T39 l0 x10_1).f3.f2))) (fun _ hk => ⟨hk.1.1, hk.1.2⟩)))⟩; have n1_ : Aside0 (Kd.R Kd.bool 4 w30 w0.heap.size (fun k_ => ((P3_ k_ ∨ P4_ k_) ∨ w.heap.size ≤ k_) ∧ some k_ ≠ (u9000_ : Value).ownBlock) u9001_ x4_1) := ⟨(by rw [hw]; exact (by (with_reducible repeat (first | apply zI | apply zJ | apply zK)); exact z1 (zc (p := ⟨gb187, 5, none⟩) (zc (p := ⟨gb187, 4, none⟩) (zc (p := ⟨gb187, 3, none⟩) (zc (p := ⟨gb187, 2, none⟩) (zc (p := ⟨gb187, 1, none⟩) (zc (p := ⟨gb187, 0, none⟩) (Kd.R_types HO_4.out BK187.out (by decide)) (fun _ hk => hk.2) (.int .i64 ((rd_T39 l0 x10_1).f0))) (fun _ hk => hk.2) (.int .i64 ((rd_T39 l0 x10_1).f1))) (fun _ hk => hk.2) (.int .i64 ((rd_T39 l0 x10_1).f2))) (fun _ hk => hk.2) (.int .i64 ((rd_T39 l0 x10_1).f3.f0))) (fun _ hk => hk.2) (.int .i64 ((rd_T39 l0 x10_1).f3.f1))) (fun _ hk => hk.2) (.int .i64 ((rd_T39 l0 x10_1).f3.f2))) (fun _ hk => ⟨hk.1.1, hk.1.2⟩)))⟩; have n2_ : Aside0 (w30.heap[gb187]? = some (.cells #[.int .i64 ((rd_T39 l0 x10_1).f0), .int .i64 ((rd_T39 l0 x10_1).f1), .int .i64 ((rd_T39 l0 x10_1).f2), .int .i64 ((rd_T39 l0 x10_1).f3.f0), .int .i64 ((rd_T39 l0 x10_1).f3.f1), .int .i64 ((rd_T39 l0 x10_1).f3.f2)] 39 (0, 0))) := ⟨(by rw [hw]; exact (by (with_reducible repeat (first | refine zN ?_ _ | refine zO ?_ | refine zP ?_ _)); refine blk_put (cs := #[.int .i64 ((rd_T39 l0 x10_1).f0), .int .i64 ((rd_T39 l0 x10_1).f1), .int .i64 ((rd_T39 l0 x10_1).f2), .int .i64 ((rd_T39 l0 x10_1).f3.f0), .int .i64 ((rd_T39 l0 x10_1).f3.f1), .int .i64 0]) ?_ 5 _ rfl; (with_reducible repeat (first | refine zN ?_ _ | refine zO ?_ | refine zP ?_ _)); refine blk_put (cs := #[.int .i64 ((rd_T39 l0 x10_1).f0), .int .i64 ((rd_T39 l0 x10_1).f1), .int .i64 ((rd_T39 l0 x10_1).f2), .int .i64 ((rd_T39 l0 x10_1).f3.f0), .int .i64 0, .int .i64 0]) ?_ 4 _ rfl; (with_reducible repeat (first | refine zN ?_ _ | refine zO ?_ | refine zP ?_ _)); refine blk_put (cs := #[.int .i64 ((rd_T39 l0 x10_1).f0), .int .i64 ((rd_T39 l0 x10_1).f1), .int .i64 ((rd_T39 l0 x10_1).f2), .int .i64 0, .int .i64 0, .int .i64 0]) ?_ 3 _ rfl; (with_reducible repeat (first | refine zN ?_ _ | refine zO ?_ | refine zP ?_ _)); refine blk_put (cs := #[.int .i64 ((rd_T39 l0 x10_1).f0), .int .i64 ((rd_T39 l0 x10_1).f1), .int .i64 0, .int .i64 0, .int .i64 0, .int .i64 0]) ?_ 2 _ rfl; (with_reducible repeat (first | refine zN ?_ _ | refine zO ?_ | refine zP ?_ _)); refine blk_put (cs := #[.int .i64 ((rd_T39 l0 x10_1).f0), .int .i64 0, .int .i64 0, .int .i64 0, .int .i64 0, .int .i64 0]) ?_ 1 _ rfl; (with_reducible repeat (first | refine zN ?_ _ | refine zO ?_ | refine zP ?_ _)); refine blk_put (cs := #[.int .i64 0, .int .i64 0, .int .i64 0, .int .i64 0, .int .i64 0, .int .i64 0]) ?_ 0 _ rfl; (with_reducible repeat (first | refine zN ?_ _ | refine zO ?_ | refine zP ?_ _)); exact BK187.out))⟩; have n3_ : Aside0 (Kept w w30 (fun k_ => P3_ k_ ∨ P4_ k_)) := ⟨(by rw [hw]; exact (by repeat (first | (with_reducible first | exact HK.out | apply Kept.alloc | apply Kept.drewN | apply Kept.drew | refine Kept.setCell ?_ (.inr GW187.out) _) | exact HK.out)))⟩; have n4_ : Aside0 (Below w0.heap.size w0 w30) := ⟨(by rw [hw]; exact zb)⟩; clear hw; clear HO_3; clear HO_4; clear BK187; clear HK; clear HB; have HO_3 := n0_; have HO_4 := n1_; have BK187 := n2_; have HK := n3_; have HB := n4_; clear n0_ n1_ n2_ n3_ n4_; have hcz31_0 := (z5 BK187.out 0).trans rfl; have hcz31_1 := (z5 BK187.out 1).trans rfl; have hcz31_2 := (z5 BK187.out 2).trans rfl; have hcz31_3 := (z5 BK187.out 3).trans rfl; have hcz31_4 := (z5 BK187.out 4).trans rfl; have hcz31_5 := (z5 BK187.out 5).trans rfl; have hfz31_0 := z6 BK187.out 0; have hfz31_1 := z6 BK187.out 1; have hfz31_2 := z6 BK187.out 2; have hfz31_3 := z6 BK187.out 3; have hfz31_4 := z6 BK187.out 4; have hfz31_5 := z6 BK187.out 5; have p27 : 0 ≤ (((rd_T39 l0 x10_1).f1) : Int) := zd; have q27 : (((rd_T39 l0 x10_1).f1) : Int) < ((x3_1.length : Int) : Int) := zd; obtain ⟨go27, co27, eo27, gb27, gl27, cl27, HG27⟩ := Kd.R_form HO_3.out (by omega); (first | cases eo27 | (injection eo27 with ea_ en_ ec_; (first | subst ea_ | (injection ea_ with ea_; subst ea_)); subst ec_; clear en_)); have GB27 := zM gb27; have GG27 := zM HG27; clear gb27 gl27 HG27; have HMgo27 := zM (show ((P3_ go27 ∨ P4_ go27) ∨ w.heap.size ≤ go27) from (HO_3.out.1 _ rfl).1); obtain ⟨hx27_0, hf27_0⟩ := Kd.R_celln false HO_3.out (((rd_T39 l0 x10_1).f1) : Int) p27 q27; replace p27 := eq_true p27; replace q27 := eq_true q27; obtain ⟨hy32_, hz32_⟩ := Kd.R_celln false HO_3.out (((rd_T39 l0 x10_1).f1) : Int) (zd) (zd); have HP32 := Kd.R_putg HO_3.out (((rd_T39 l0 x10_1).f1) : Int) true) | ((with_reducible refine gate_store (t := 4) (p := 42) rfl ?_); refine store_event (t := 4) (p := 42) (v := ?vo_w33) (w1 := (w30.setCell ⟨go27, (((rd_T39 l0 x10_1).f1) : Int).toNat, none⟩ (.bool true))) ?hg ?ho ?hn ?hr ?_; (case ho => rfl); (case hg => rfl); (case hn => rfl); (case hr => first | (go_simp; done) | (go_simp; rfl)); intro w33 hw; have hg : w30.grownBy w33 (some go27) := (by rw [hw]; exact HP32.2); have hp_ : Kd.R Kd.bool 4 w33 w0.heap.size (fun k_ => ((P3_ k_ ∨ P4_ k_) ∨ w.heap.size ≤ k_) ∧ some k_ ≠ (u9001_ : Value).ownBlock) (.slice (some ⟨go27, 0, none⟩) x3_1.length co27) y190 := (by rw [hw, Ny190.out]; exact HP32.1); clear HP32; have n0_ := zM (hp_); have n1_ := zM (Kd.R_after (v := (.slice (some ⟨go27, 0, none⟩) x3_1.length co27)) (v1 := (.slice (some ⟨go27, 0, none⟩) x3_1.length co27)) (ok := (fun k_ => ((P3_ k_ ∨ P4_ k_) ∨ w.heap.size ≤ k_))) (by (with_reducible repeat (first | apply zI | apply zJ | apply zK)); exact HO_4.out) hg (.inl rfl)); have n2_ := zM (blk_grown (g := gb187) (o := .cells #[.int .i64 ((rd_T39 l0 x10_1).f0), .int .i64 ((rd_T39 l0 x10_1).f1), .int .i64 ((rd_T39 l0 x10_1).f2), .int .i64 ((rd_T39 l0 x10_1).f3.f0), .int .i64 ((rd_T39 l0 x10_1).f3.f1), .int .i64 ((rd_T39 l0 x10_1).f3.f2)] 39 (0, 0)) zk hg (Kd.R_ne HO_3.out BK187.out (by decide))); have n3_ := zM ((by rw [hw]; exact zS (HB.out) GB27.out : Below w0.heap.size w0 w33)); have n4_ := zM (Kept.of_grown (S := (fun k_ => P3_ k_ ∨ P4_ k_)) hg (by repeat (first | (with_reducible first | exact HK.out | apply Kept.alloc | apply Kept.drewN | apply Kept.drew | refine Kept.setCell ?_ (.inr GW187.out) _) | exact HK.out)) (fun k_ e_ => (HO_3.out.1 k_ e_).1)); clear HO_3; clear HO_4; clear BK187; clear HB; clear HK; have HO_3 := n0_; have HO_4 := n1_; have BK187 := n2_; have HB := n3_; have HK := n4_; clear n0_ n1_ n2_ n3_ n4_; clear hg hw hp_))
          go_roundg k1
          case measure => have := HK1.out; omega
          case rel => exact ⟨(y190), (x4_1), (wrap64 (x10_1 + 1)), zs, H', ⟨by have := HK1.out; omega⟩, ⟨by (with_reducible repeat (first | apply zI | apply zJ | apply zK)); exact HO_3.out⟩, ⟨by (with_reducible repeat (first | apply zI | apply zJ | apply zK)); exact HO_4.out⟩, ⟨by repeat (first | (with_reducible first | exact HK.out | apply Kept.alloc | apply Kept.drewN | apply Kept.drew | refine Kept.setCell ?_ (.inr GW187.out) _) | exact HK.out)⟩, ⟨zb⟩⟩
         ·rw [if_neg c26] at H
          exact absurd H (by simp)
        ·rw [if_neg c25] at H
         exact absurd H (by simp)
       ·rw [if_neg c24] at H
        have c24b0 : (((rd_T39 l0 x10_1).f0) == 2) = false := beq_eq_false_iff_ne.mpr c24
        have c24b1 : (((rd_T39 l0 x10_1).f0) != 2) = true := bne_iff_ne.mpr c24
        by_cases c34 : ((rd_T39 l0 x10_1).f0) = 3
        ·rw [if_pos c34] at H
         have c34b0 : (((rd_T39 l0 x10_1).f0) == 3) = true := beq_iff_eq.mpr c34
         have c34b1 : (((rd_T39 l0 x10_1).f0) != 3) = false := bne_eq_false_iff_eq.mpr c34
         clear c34
         replace H := Option.bind_eq_some_iff.mp H
         obtain ⟨t191, A350, H⟩ := H
         replace H : (spec_l07Pass.l0 k1 l0 a2 x3_1 t191 (wrap64 (x10_1 + 1))) = some (r1, r2) := H
         have A35 := zM A350
         clear A350
         have H' := zM H
         clear H
         have p186 : 0 ≤ (x10_1 : Int) := zd
         have q186 : x10_1 < (l0.length : Int) := zd
         obtain ⟨ad186, e186, hx186_0, hx186_1, hx186_2, hx186_3, hx186_4, hx186_5⟩ := at_T39 (Kd.C_kept_now HR0.out HK.out) x10_1 p186 q186
         cases e186
         replace p186 := eq_true p186
         replace q186 := eq_true q186
         go_wp2_with (first | ((with_reducible refine gate_dst (N := 11) rfl ?_); refine box_event ?hg (N := 11) ?hd (cs := #[.int .i64 0, .int .i64 0, .int .i64 0, .int .i64 0, .int .i64 0, .int .i64 0]) (t := 39) ?hr ?_; (case hd => rfl); (case hg => rfl); (case hr => first | (go_simp; done) | (go_simp; rfl)); intro gb187 hg w36 hbox hb; have n0_ := zM (ze (by (with_reducible repeat (first | apply zI | apply zJ | apply zK)); exact HO_3.out) hb); have n1_ := zM (ze (by (with_reducible repeat (first | apply zI | apply zJ | apply zK)); exact HO_4.out) hb); have n2_ := zM (Kept.below (S := (fun k_ => P3_ k_ ∨ P4_ k_)) (by repeat (first | (with_reducible first | exact HK.out | apply Kept.alloc | apply Kept.drewN | apply Kept.drew) | exact HK.out)) hb); have n3_ := zM (zQ zb hb); have n4_ := zM (hbox); have n5_ := zM ((by rw [hg]; exact (by first | exact HK.out.1 | exact (show Kept w _ (fun k_ => P3_ k_ ∨ P4_ k_) from by repeat (first | (with_reducible first | exact HK.out | apply Kept.alloc | apply Kept.drewN | apply Kept.drew) | exact HK.out)).1) : w.heap.size ≤ gb187)); have n6_ := zM ((by rw [hg]; exact (zR zb) : w0.heap.size ≤ gb187)); clear HO_3; clear HO_4; clear HK; clear HB; have HO_3 := n0_; have HO_4 := n1_; have HK := n2_; have HB := n3_; have BK187 := n4_; have GW187 := n5_; have GE187 := n6_; clear n0_ n1_ n2_ n3_ n4_ n5_ n6_; clear hb hbox hg; have hcz37_0 := (z5 BK187.out 0).trans rfl; have hcz37_1 := (z5 BK187.out 1).trans rfl; have hcz37_2 := (z5 BK187.out 2).trans rfl; have hcz37_3 := (z5 BK187.out 3).trans rfl; have hcz37_4 := (z5 BK187.out 4).trans rfl; have hcz37_5 := (z5 BK187.out 5).trans rfl; have hfz37_0 := z6 BK187.out 0; have hfz37_1 := z6 BK187.out 1; have hfz37_2 := z6 BK187.out 2; have hfz37_3 := z6 BK187.out 3; have hfz37_4 := z6 BK187.out 4; have hfz37_5 := z6 BK187.out 5) | ((with_reducible refine gate_store (t := 39) (p := 11) rfl ?_); refine store_event (t := 39) (p := 11) (v := ?vo_w38) (w1 := ((((((w36.setCell ⟨gb187, 0, none⟩ (.int .i64 ((rd_T39 l0 x10_1).f0))).setCell ⟨gb187, 1, none⟩ (.int .i64 ((rd_T39 l0 x10_1).f1))).setCell ⟨gb187, 2, none⟩ (.int .i64 ((rd_T39 l0 x10_1).f2))).setCell ⟨gb187, 3, none⟩ (.int .i64 ((rd_T39 l0 x10_1).f3.f0))).setCell ⟨gb187, 4, none⟩ (.int .i64 ((rd_T39 l0 x10_1).f3.f1))).setCell ⟨gb187, 5, none⟩ (.int .i64 ((rd_T39 l0 x10_1).f3.f2)))) ?hg ?ho ?hn ?hr ?_; (case ho => rfl); (case hg => rfl); (case hn => rfl); (case hr => first | (go_simp; done) | (go_simp; rfl)); intro w38 hw; have n0_ : Aside0 (Kd.R Kd.bool 4 w38 w0.heap.size (fun k_ => ((P3_ k_ ∨ P4_ k_) ∨ w.heap.size ≤ k_) ∧ some k_ ≠ (u9001_ : Value).ownBlock) u9000_ x3_1) := ⟨(by rw [hw]; exact (by (with_reducible repeat (first | apply zI | apply zJ | apply zK)); exact z1 (zc (p := ⟨gb187, 5, none⟩) (zc (p := ⟨gb187, 4, none⟩) (zc (p := ⟨gb187, 3, none⟩) (zc (p := ⟨gb187, 2, none⟩) (zc (p := ⟨gb187, 1, none⟩) (zc (p := ⟨gb187, 0, none⟩) (Kd.R_types HO_3.out BK187.out (by decide)) (fun _ hk => hk.2) (.int .i64 ((rd_T39 l0 x10_1).f0))) (fun _ hk => hk.2) (.int .i64 ((rd_T39 l0 x10_1).f1))) (fun _ hk => hk.2) (.int .i64 ((rd_T39 l0 x10_1).f2))) (fun _ hk => hk.2) (.int .i64 ((rd_T39 l0 x10_1).f3.f0))) (fun _ hk => hk.2) (.int .i64 ((rd_T39 l0 x10_1).f3.f1))) (fun _ hk => hk.2) (.int .i64 ((rd_T39 l0 x10_1).f3.f2))) (fun _ hk => ⟨hk.1.1, hk.1.2⟩)))⟩; have n1_ : Aside0 (Kd.R Kd.bool 4 w38 w0.heap.size (fun k_ => ((P3_ k_ ∨ P4_ k_) ∨ w.heap.size ≤ k_) ∧ some k_ ≠ (u9000_ : Value).ownBlock) u9001_ x4_1) := ⟨(by rw [hw]; exact (by (with_reducible repeat (first | apply zI | apply zJ | apply zK)); exact z1 (zc (p := ⟨gb187, 5, none⟩) (zc (p := ⟨gb187, 4, none⟩) (zc (p := ⟨gb187, 3, none⟩) (zc (p := ⟨gb187, 2, none⟩) (zc (p := ⟨gb187, 1, none⟩) (zc (p := ⟨gb187, 0, none⟩) (Kd.R_types HO_4.out BK187.out (by decide)) (fun _ hk => hk.2) (.int .i64 ((rd_T39 l0 x10_1).f0))) (fun _ hk => hk.2) (.int .i64 ((rd_T39 l0 x10_1).f1))) (fun _ hk => hk.2) (.int .i64 ((rd_T39 l0 x10_1).f2))) (fun _ hk => hk.2) (.int .i64 ((rd_T39 l0 x10_1).f3.f0))) (fun _ hk => hk.2) (.int .i64 ((rd_T39 l0 x10_1).f3.f1))) (fun _ hk => hk.2) (.int .i64 ((rd_T39 l0 x10_1).f3.f2))) (fun _ hk => ⟨hk.1.1, hk.1.2⟩)))⟩; have n2_ : Aside0 (w38.heap[gb187]? = some (.cells #[.int .i64 ((rd_T39 l0 x10_1).f0), .int .i64 ((rd_T39 l0 x10_1).f1), .int .i64 ((rd_T39 l0 x10_1).f2), .int .i64 ((rd_T39 l0 x10_1).f3.f0), .int .i64 ((rd_T39 l0 x10_1).f3.f1), .int .i64 ((rd_T39 l0 x10_1).f3.f2)] 39 (0, 0))) := ⟨(by rw [hw]; exact (by (with_reducible repeat (first | refine zN ?_ _ | refine zO ?_ | refine zP ?_ _)); refine blk_put (cs := #[.int .i64 ((rd_T39 l0 x10_1).f0), .int .i64 ((rd_T39 l0 x10_1).f1), .int .i64 ((rd_T39 l0 x10_1).f2), .int .i64 ((rd_T39 l0 x10_1).f3.f0), .int .i64 ((rd_T39 l0 x10_1).f3.f1), .int .i64 0]) ?_ 5 _ rfl; (with_reducible repeat (first | refine zN ?_ _ | refine zO ?_ | refine zP ?_ _)); refine blk_put (cs := #[.int .i64 ((rd_T39 l0 x10_1).f0), .int .i64 ((rd_T39 l0 x10_1).f1), .int .i64 ((rd_T39 l0 x10_1).f2), .int .i64 ((rd_T39 l0 x10_1).f3.f0), .int .i64 0, .int .i64 0]) ?_ 4 _ rfl; (with_reducible repeat (first | refine zN ?_ _ | refine zO ?_ | refine zP ?_ _)); refine blk_put (cs := #[.int .i64 ((rd_T39 l0 x10_1).f0), .int .i64 ((rd_T39 l0 x10_1).f1), .int .i64 ((rd_T39 l0 x10_1).f2), .int .i64 0, .int .i64 0, .int .i64 0]) ?_ 3 _ rfl; (with_reducible repeat (first | refine zN ?_ _ | refine zO ?_ | refine zP ?_ _)); refine blk_put (cs := #[.int .i64 ((rd_T39 l0 x10_1).f0), .int .i64 ((rd_T39 l0 x10_1).f1), .int .i64 0, .int .i64 0, .int .i64 0, .int .i64 0]) ?_ 2 _ rfl; (with_reducible repeat (first | refine zN ?_ _ | refine zO ?_ | refine zP ?_ _)); refine blk_put (cs := #[.int .i64 ((rd_T39 l0 x10_1).f0), .int .i64 0, .int .i64 0, .int .i64 0, .int .i64 0, .int .i64 0]) ?_ 1 _ rfl; (with_reducible repeat (first | refine zN ?_ _ | refine zO ?_ | refine zP ?_ _)); refine blk_put (cs := #[.int .i64 0, .int .i64 0, .int .i64 0, .int .i64 0, .int .i64 0, .int .i64 0]) ?_ 0 _ rfl; (with_reducible repeat (first | refine zN ?_ _ | refine zO ?_ | refine zP ?_ _)); exact BK187.out))⟩; have n3_ : Aside0 (Kept w w38 (fun k_ => P3_ k_ ∨ P4_ k_)) := ⟨(by rw [hw]; exact (by repeat (first | (with_reducible first | exact HK.out | apply Kept.alloc | apply Kept.drewN | apply Kept.drew | refine Kept.setCell ?_ (.inr GW187.out) _) | exact HK.out)))⟩; have n4_ : Aside0 (Below w0.heap.size w0 w38) := ⟨(by rw [hw]; exact zb)⟩; clear hw; clear HO_3; clear HO_4; clear BK187; clear HK; clear HB; have HO_3 := n0_; have HO_4 := n1_; have BK187 := n2_; have HK := n3_; have HB := n4_; clear n0_ n1_ n2_ n3_ n4_; have hcz39_0 := (z5 BK187.out 0).trans rfl; have hcz39_1 := (z5 BK187.out 1).trans rfl; have hcz39_2 := (z5 BK187.out 2).trans rfl; have hcz39_3 := (z5 BK187.out 3).trans rfl; have hcz39_4 := (z5 BK187.out 4).trans rfl; have hcz39_5 := (z5 BK187.out 5).trans rfl; have hfz39_0 := z6 BK187.out 0; have hfz39_1 := z6 BK187.out 1; have hfz39_2 := z6 BK187.out 2; have hfz39_3 := z6 BK187.out 3; have hfz39_4 := z6 BK187.out 4; have hfz39_5 := z6 BK187.out 5; obtain ⟨Ao40, co40, eo40⟩ := Kd.R_slice HO_4.out; subst eo40; obtain ⟨Ao41, co41, eo41⟩ := Kd.R_slice HO_3.out; subst eo41) | ((with_reducible refine gate_callee (f := 61) rfl ?_); refine goesL_ (some 49) rfl rfl Try.func61 (by kernel_rfl) rfl #[.slice Ao40 x4_1.length co40, .slice Ao41 x3_1.length co41, .agg #[.int .i64 ((rd_T39 l0 x10_1).f3.f0), .int .i64 ((rd_T39 l0 x10_1).f3.f1), .int .i64 ((rd_T39 l0 x10_1).f3.f2)]] rfl zg ?_; (with_reducible refine (spec_l07Note.calls k1 (fun k_ => some k_ = (.slice Ao40 x4_1.length co40 : Value).ownBlock) (.slice Ao40 x4_1.length co40) x4_1 _ _ x3_1 ((rd_T39 l0 x10_1).f3.f0) ((rd_T39 l0 x10_1).f3.f1) ((rd_T39 l0 x10_1).f3.f2) t191 w0 _ ?side1 ?side2 ?side3 ?side4 A35.out).mono ?_); (case side1 => repeat (first | (with_reducible first | exact HB.out | apply z2 | apply z3 | apply z4 | refine zS ?_ GE187.out) | exact HB.out)); (case side2 => exact Kd.R_tight rfl HO_4.out); (case side3 => exact Kd.C_kept_own (HO_3.out) (fun k_ hk_ hs_ => (hk_.2) hs_)); (case side4 => exact (z9 HO_3.out).2.1); rintro e w42 ⟨rfl, hy0, hb, hkp⟩; refine ⟨_, rfl, ?_⟩; have n0_ := zM (z1 (ok' := fun k_ => ((P3_ k_ ∨ P4_ k_) ∨ w.heap.size ≤ k_) ∧ some k_ ≠ (.slice Ao40 x4_1.length co40 : Value).ownBlock) (Kd.R_keptB (HO_3.out) hkp (fun k_ hk_ hs_ => (hk_.2) hs_)) (fun k_ hk_ => ⟨hk_.1.1, hk_.1.2⟩)); have n1_ := zM (Kd.R_reok rfl hy0 (fun k_ e_ => HO_4.out.1 k_ e_)); have n2_ := zM (blk_kept zk hkp (fun hs_ => (fun e_ => (Kd.R_ne HO_4.out BK187.out (by decide)) e_) hs_)); have n3_ := zM (Kept.then_ (S := (fun k_ => P3_ k_ ∨ P4_ k_)) (by repeat (first | (with_reducible first | exact HK.out | apply Kept.alloc | apply Kept.drewN | apply Kept.drew | refine Kept.setCell ?_ (.inr GW187.out) _) | exact HK.out)) hkp (fun k_ hs_ => (fun e_ => (HO_4.out.1 k_ e_.symm).1) hs_)); have n4_ := zM (hb); clear HO_3; clear HO_4; clear BK187; clear HK; clear HB; have HO_3 := n0_; have HO_4 := n1_; have BK187 := n2_; have HK := n3_; have HB := n4_; clear n0_ n1_ n2_ n3_ n4_; (try clear hb); (try clear hkp); (try clear hy0)))
         go_roundg k1
         case measure => have := HK1.out; omega
         case rel => exact ⟨(x3_1), (t191), (wrap64 (x10_1 + 1)), zs, H', ⟨by have := HK1.out; omega⟩, ⟨by (with_reducible repeat (first | apply zI | apply zJ | apply zK)); exact HO_3.out⟩, ⟨by (with_reducible repeat (first | apply zI | apply zJ | apply zK)); exact HO_4.out⟩, ⟨by repeat (first | (with_reducible first | exact HK.out | apply Kept.alloc | apply Kept.drewN | apply Kept.drew | refine Kept.setCell ?_ (.inr GW187.out) _) | exact HK.out)⟩, ⟨zb⟩⟩
        ·rw [if_neg c34] at H
         have c34b0 : (((rd_T39 l0 x10_1).f0) == 3) = false := beq_eq_false_iff_ne.mpr c34
         have c34b1 : (((rd_T39 l0 x10_1).f0) != 3) = true := bne_iff_ne.mpr c34
         by_cases c43 : ((rd_T39 l0 x10_1).f0) = 4
         ·rw [if_pos c43] at H
          have c43b0 : (((rd_T39 l0 x10_1).f0) == 4) = true := beq_iff_eq.mpr c43
          have c43b1 : (((rd_T39 l0 x10_1).f0) != 4) = false := bne_eq_false_iff_eq.mpr c43
          clear c43
          replace H := Option.bind_eq_some_iff.mp H
          obtain ⟨t192, A440, H⟩ := H
          replace H : ((spec_l05End.f k1 l0 x10_1).bind fun t193 => ((some (([] : List Bool) : List Bool)).bind fun y194 => (if y194.length + x3_1.length < 140737488355328 then ((spec_l07Pass.f k1 l0 (wrap64 (x10_1 + 1)) t193 (y194 ++ x3_1) t192).bind fun bt200 => (spec_l07Pass.l0 k1 l0 a2 x3_1 bt200.2 (wrap64 (t193 + 1)))) else (none)))) = some (r1, r2) := H
          have A44 := zM A440
          clear A440
          replace H := Option.bind_eq_some_iff.mp H
          obtain ⟨t193, A450, H⟩ := H
          replace H : ((some (([] : List Bool) : List Bool)).bind fun y194 => (if y194.length + x3_1.length < 140737488355328 then ((spec_l07Pass.f k1 l0 (wrap64 (x10_1 + 1)) t193 (y194 ++ x3_1) t192).bind fun bt200 => (spec_l07Pass.l0 k1 l0 a2 x3_1 bt200.2 (wrap64 (t193 + 1)))) else (none))) = some (r1, r2) := H
          have A45 := zM A450
          clear A450
          obtain ⟨y194, hyq⟩ : ∃ y_ : List Bool, y_ = (([] : List Bool)) := ⟨_, rfl⟩
          replace H : (if y194.length + x3_1.length < 140737488355328 then ((spec_l07Pass.f k1 l0 (wrap64 (x10_1 + 1)) t193 (y194 ++ x3_1) t192).bind fun bt200 => (spec_l07Pass.l0 k1 l0 a2 x3_1 bt200.2 (wrap64 (t193 + 1)))) else (none)) = some (r1, r2) := zh
          have Ny194 := zM hyq
          clear hyq
          by_cases c46 : y194.length + x3_1.length < 140737488355328
          ·rw [if_pos c46] at H
           have LMc46 := zM c46
           clear c46
           obtain ⟨y197, hyq⟩ : ∃ y_ : List Bool, y_ = (y194 ++ x3_1) := ⟨_, rfl⟩
           replace H : ((spec_l07Pass.f k1 l0 (wrap64 (x10_1 + 1)) t193 y197 t192).bind fun bt200 => (spec_l07Pass.l0 k1 l0 a2 x3_1 bt200.2 (wrap64 (t193 + 1)))) = some (r1, r2) := zh
           have Ny197 := zM hyq
           clear hyq
           replace H := Option.bind_eq_some_iff.mp H
           obtain ⟨⟨t200, t201⟩, A470, H⟩ := H
           replace H : (spec_l07Pass.l0 k1 l0 a2 x3_1 t201 (wrap64 (t193 + 1))) = some (r1, r2) := H
           have A47 := zM A470
           clear A470
           have H' := zM H
           clear H
           have p186 : 0 ≤ (x10_1 : Int) := zd
           have q186 : x10_1 < (l0.length : Int) := zd
           obtain ⟨ad186, e186, hx186_0, hx186_1, hx186_2, hx186_3, hx186_4, hx186_5⟩ := at_T39 (Kd.C_kept_now HR0.out HK.out) x10_1 p186 q186
           cases e186
           replace p186 := eq_true p186
           replace q186 := eq_true q186
           go_wp2_with (first | ((with_reducible refine gate_dst (N := 11) rfl ?_); refine box_event ?hg (N := 11) ?hd (cs := #[.int .i64 0, .int .i64 0, .int .i64 0, .int .i64 0, .int .i64 0, .int .i64 0]) (t := 39) ?hr ?_; (case hd => rfl); (case hg => rfl); (case hr => first | (go_simp; done) | (go_simp; rfl)); intro gb187 hg w48 hbox hb; have n0_ := zM (ze (by (with_reducible repeat (first | apply zI | apply zJ | apply zK)); exact HO_3.out) hb); have n1_ := zM (ze (by (with_reducible repeat (first | apply zI | apply zJ | apply zK)); exact HO_4.out) hb); have n2_ := zM (Kept.below (S := (fun k_ => P3_ k_ ∨ P4_ k_)) (by repeat (first | (with_reducible first | exact HK.out | apply Kept.alloc | apply Kept.drewN | apply Kept.drew) | exact HK.out)) hb); have n3_ := zM (zQ zb hb); have n4_ := zM (hbox); have n5_ := zM ((by rw [hg]; exact (by first | exact HK.out.1 | exact (show Kept w _ (fun k_ => P3_ k_ ∨ P4_ k_) from by repeat (first | (with_reducible first | exact HK.out | apply Kept.alloc | apply Kept.drewN | apply Kept.drew) | exact HK.out)).1) : w.heap.size ≤ gb187)); have n6_ := zM ((by rw [hg]; exact (zR zb) : w0.heap.size ≤ gb187)); clear HO_3; clear HO_4; clear HK; clear HB; have HO_3 := n0_; have HO_4 := n1_; have HK := n2_; have HB := n3_; have BK187 := n4_; have GW187 := n5_; have GE187 := n6_; clear n0_ n1_ n2_ n3_ n4_ n5_ n6_; clear hb hbox hg; have hcz49_0 := (z5 BK187.out 0).trans rfl; have hcz49_1 := (z5 BK187.out 1).trans rfl; have hcz49_2 := (z5 BK187.out 2).trans rfl; have hcz49_3 := (z5 BK187.out 3).trans rfl; have hcz49_4 := (z5 BK187.out 4).trans rfl; have hcz49_5 := (z5 BK187.out 5).trans rfl; have hfz49_0 := z6 BK187.out 0; have hfz49_1 := z6 BK187.out 1; have hfz49_2 := z6 BK187.out 2; have hfz49_3 := z6 BK187.out 3; have hfz49_4 := z6 BK187.out 4; have hfz49_5 := z6 BK187.out 5) | ((with_reducible refine gate_store (t := 39) (p := 11) rfl ?_); refine store_event (t := 39) (p := 11) (v := ?vo_w50) (w1 := ((((((w48.setCell ⟨gb187, 0, none⟩ (.int .i64 ((rd_T39 l0 x10_1).f0))).setCell ⟨gb187, 1, none⟩ (.int .i64 ((rd_T39 l0 x10_1).f1))).setCell ⟨gb187, 2, none⟩ (.int .i64 ((rd_T39 l0 x10_1).f2))).setCell ⟨gb187, 3, none⟩ (.int .i64 ((rd_T39 l0 x10_1).f3.f0))).setCell ⟨gb187, 4, none⟩ (.int .i64 ((rd_T39 l0 x10_1).f3.f1))).setCell ⟨gb187, 5, none⟩ (.int .i64 ((rd_T39 l0 x10_1).f3.f2)))) ?hg ?ho ?hn ?hr ?_; (case ho => rfl); (case hg => rfl); (case hn => rfl); (case hr => first | (go_simp; done) | (go_simp; rfl)); intro w50 hw; have n0_ : Aside0 (Kd.R Kd.bool 4 w50 w0.heap.size (fun k_ => ((P3_ k_ ∨ P4_ k_) ∨ w.heap.size ≤ k_) ∧ some k_ ≠ (u9001_ : Value).ownBlock) u9000_ x3_1) := ⟨(by rw [hw]; exact (by (with_reducible repeat (first | apply zI | apply zJ | apply zK)); exact z1 (zc (p := ⟨gb187, 5, none⟩) (zc (p := ⟨gb187, 4, none⟩) (zc (p := ⟨gb187, 3, none⟩) (zc (p := ⟨gb187, 2, none⟩) (zc (p := ⟨gb187, 1, none⟩) (zc (p := ⟨gb187, 0, none⟩) (Kd.R_types HO_3.out BK187.out (by decide)) (fun _ hk => hk.2) (.int .i64 ((rd_T39 l0 x10_1).f0))) (fun _ hk => hk.2) (.int .i64 ((rd_T39 l0 x10_1).f1))) (fun _ hk => hk.2) (.int .i64 ((rd_T39 l0 x10_1).f2))) (fun _ hk => hk.2) (.int .i64 ((rd_T39 l0 x10_1).f3.f0))) (fun _ hk => hk.2) (.int .i64 ((rd_T39 l0 x10_1).f3.f1))) (fun _ hk => hk.2) (.int .i64 ((rd_T39 l0 x10_1).f3.f2))) (fun _ hk => ⟨hk.1.1, hk.1.2⟩)))⟩; have n1_ : Aside0 (Kd.R Kd.bool 4 w50 w0.heap.size (fun k_ => ((P3_ k_ ∨ P4_ k_) ∨ w.heap.size ≤ k_) ∧ some k_ ≠ (u9000_ : Value).ownBlock) u9001_ x4_1) := ⟨(by rw [hw]; exact (by (with_reducible repeat (first | apply zI | apply zJ | apply zK)); exact z1 (zc (p := ⟨gb187, 5, none⟩) (zc (p := ⟨gb187, 4, none⟩) (zc (p := ⟨gb187, 3, none⟩) (zc (p := ⟨gb187, 2, none⟩) (zc (p := ⟨gb187, 1, none⟩) (zc (p := ⟨gb187, 0, none⟩) (Kd.R_types HO_4.out BK187.out (by decide)) (fun _ hk => hk.2) (.int .i64 ((rd_T39 l0 x10_1).f0))) (fun _ hk => hk.2) (.int .i64 ((rd_T39 l0 x10_1).f1))) (fun _ hk => hk.2) (.int .i64 ((rd_T39 l0 x10_1).f2))) (fun _ hk => hk.2) (.int .i64 ((rd_T39 l0 x10_1).f3.f0))) (fun _ hk => hk.2) (.int .i64 ((rd_T39 l0 x10_1).f3.f1))) (fun _ hk => hk.2) (.int .i64 ((rd_T39 l0 x10_1).f3.f2))) (fun _ hk => ⟨hk.1.1, hk.1.2⟩)))⟩; have n2_ : Aside0 (w50.heap[gb187]? = some (.cells #[.int .i64 ((rd_T39 l0 x10_1).f0), .int .i64 ((rd_T39 l0 x10_1).f1), .int .i64 ((rd_T39 l0 x10_1).f2), .int .i64 ((rd_T39 l0 x10_1).f3.f0), .int .i64 ((rd_T39 l0 x10_1).f3.f1), .int .i64 ((rd_T39 l0 x10_1).f3.f2)] 39 (0, 0))) := ⟨(by rw [hw]; exact (by (with_reducible repeat (first | refine zN ?_ _ | refine zO ?_ | refine zP ?_ _)); refine blk_put (cs := #[.int .i64 ((rd_T39 l0 x10_1).f0), .int .i64 ((rd_T39 l0 x10_1).f1), .int .i64 ((rd_T39 l0 x10_1).f2), .int .i64 ((rd_T39 l0 x10_1).f3.f0), .int .i64 ((rd_T39 l0 x10_1).f3.f1), .int .i64 0]) ?_ 5 _ rfl; (with_reducible repeat (first | refine zN ?_ _ | refine zO ?_ | refine zP ?_ _)); refine blk_put (cs := #[.int .i64 ((rd_T39 l0 x10_1).f0), .int .i64 ((rd_T39 l0 x10_1).f1), .int .i64 ((rd_T39 l0 x10_1).f2), .int .i64 ((rd_T39 l0 x10_1).f3.f0), .int .i64 0, .int .i64 0]) ?_ 4 _ rfl; (with_reducible repeat (first | refine zN ?_ _ | refine zO ?_ | refine zP ?_ _)); refine blk_put (cs := #[.int .i64 ((rd_T39 l0 x10_1).f0), .int .i64 ((rd_T39 l0 x10_1).f1), .int .i64 ((rd_T39 l0 x10_1).f2), .int .i64 0, .int .i64 0, .int .i64 0]) ?_ 3 _ rfl; (with_reducible repeat (first | refine zN ?_ _ | refine zO ?_ | refine zP ?_ _)); refine blk_put (cs := #[.int .i64 ((rd_T39 l0 x10_1).f0), .int .i64 ((rd_T39 l0 x10_1).f1), .int .i64 0, .int .i64 0, .int .i64 0, .int .i64 0]) ?_ 2 _ rfl; (with_reducible repeat (first | refine zN ?_ _ | refine zO ?_ | refine zP ?_ _)); refine blk_put (cs := #[.int .i64 ((rd_T39 l0 x10_1).f0), .int .i64 0, .int .i64 0, .int .i64 0, .int .i64 0, .int .i64 0]) ?_ 1 _ rfl; (with_reducible repeat (first | refine zN ?_ _ | refine zO ?_ | refine zP ?_ _)); refine blk_put (cs := #[.int .i64 0, .int .i64 0, .int .i64 0, .int .i64 0, .int .i64 0, .int .i64 0]) ?_ 0 _ rfl; (with_reducible repeat (first | refine zN ?_ _ | refine zO ?_ | refine zP ?_ _)); exact BK187.out))⟩; have n3_ : Aside0 (Kept w w50 (fun k_ => P3_ k_ ∨ P4_ k_)) := ⟨(by rw [hw]; exact (by repeat (first | (with_reducible first | exact HK.out | apply Kept.alloc | apply Kept.drewN | apply Kept.drew | refine Kept.setCell ?_ (.inr GW187.out) _) | exact HK.out)))⟩; have n4_ : Aside0 (Below w0.heap.size w0 w50) := ⟨(by rw [hw]; exact zb)⟩; clear hw; clear HO_3; clear HO_4; clear BK187; clear HK; clear HB; have HO_3 := n0_; have HO_4 := n1_; have BK187 := n2_; have HK := n3_; have HB := n4_; clear n0_ n1_ n2_ n3_ n4_; have hcz51_0 := (z5 BK187.out 0).trans rfl; have hcz51_1 := (z5 BK187.out 1).trans rfl; have hcz51_2 := (z5 BK187.out 2).trans rfl; have hcz51_3 := (z5 BK187.out 3).trans rfl; have hcz51_4 := (z5 BK187.out 4).trans rfl; have hcz51_5 := (z5 BK187.out 5).trans rfl; have hfz51_0 := z6 BK187.out 0; have hfz51_1 := z6 BK187.out 1; have hfz51_2 := z6 BK187.out 2; have hfz51_3 := z6 BK187.out 3; have hfz51_4 := z6 BK187.out 4; have hfz51_5 := z6 BK187.out 5; obtain ⟨Ao52, co52, eo52⟩ := Kd.R_slice HO_4.out; subst eo52; obtain ⟨Ao53, co53, eo53⟩ := Kd.R_slice HO_3.out; subst eo53) | ((with_reducible refine gate_callee (f := 61) rfl ?_); refine goesL_ (some 56) rfl rfl Try.func61 (by kernel_rfl) rfl #[.slice Ao52 x4_1.length co52, .slice Ao53 x3_1.length co53, .agg #[.int .i64 ((rd_T39 l0 x10_1).f3.f0), .int .i64 ((rd_T39 l0 x10_1).f3.f1), .int .i64 ((rd_T39 l0 x10_1).f3.f2)]] rfl zg ?_; (with_reducible refine (spec_l07Note.calls k1 (fun k_ => some k_ = (.slice Ao52 x4_1.length co52 : Value).ownBlock) (.slice Ao52 x4_1.length co52) x4_1 _ _ x3_1 ((rd_T39 l0 x10_1).f3.f0) ((rd_T39 l0 x10_1).f3.f1) ((rd_T39 l0 x10_1).f3.f2) t192 w0 _ ?side1 ?side2 ?side3 ?side4 A44.out).mono ?_); (case side1 => repeat (first | (with_reducible first | exact HB.out | apply z2 | apply z3 | apply z4 | refine zS ?_ GE187.out) | exact HB.out)); (case side2 => exact Kd.R_tight rfl HO_4.out); (case side3 => exact Kd.C_kept_own (HO_3.out) (fun k_ hk_ hs_ => (hk_.2) hs_)); (case side4 => exact (z9 HO_3.out).2.1); rintro e w54 ⟨rfl, hy0, hb, hkp⟩; refine ⟨_, rfl, ?_⟩; have n0_ := zM (z1 (ok' := fun k_ => ((P3_ k_ ∨ P4_ k_) ∨ w.heap.size ≤ k_) ∧ some k_ ≠ (.slice Ao52 x4_1.length co52 : Value).ownBlock) (Kd.R_keptB (HO_3.out) hkp (fun k_ hk_ hs_ => (hk_.2) hs_)) (fun k_ hk_ => ⟨hk_.1.1, hk_.1.2⟩)); have n1_ := zM (Kd.R_reok rfl hy0 (fun k_ e_ => HO_4.out.1 k_ e_)); have n2_ := zM (blk_kept zk hkp (fun hs_ => (fun e_ => (Kd.R_ne HO_4.out BK187.out (by decide)) e_) hs_)); have n3_ := zM (Kept.then_ (S := (fun k_ => P3_ k_ ∨ P4_ k_)) (by repeat (first | (with_reducible first | exact HK.out | apply Kept.alloc | apply Kept.drewN | apply Kept.drew | refine Kept.setCell ?_ (.inr GW187.out) _) | exact HK.out)) hkp (fun k_ hs_ => (fun e_ => (HO_4.out.1 k_ e_.symm).1) hs_)); have n4_ := zM (hb); clear HO_3; clear HO_4; clear BK187; clear HK; clear HB; have HO_3 := n0_; have HO_4 := n1_; have BK187 := n2_; have HK := n3_; have HB := n4_; clear n0_ n1_ n2_ n3_ n4_; (try clear hb); (try clear hkp); (try clear hy0)) | ((with_reducible refine gate_callee (f := 53) rfl ?_); refine goesL_ (some 59) rfl rfl Try.func53 (by kernel_rfl) rfl #[.slice (some ad186) l0.length c0, .int .i64 x10_1] rfl zg ?_; (with_reducible refine (spec_l05End.calls k1 _ _ l0 x10_1 t193 _ ?side1 ?side2 A45.out).mono ?_); (case side1 => exact Kd.C_kept_now HR0.out (by repeat (first | (with_reducible first | exact HK.out | apply Kept.alloc | apply Kept.drewN | apply Kept.drew | refine Kept.setCell ?_ (.inr GW187.out) _) | exact HK.out))); (case side2 => exact HC0.out); rintro e w55 ⟨rfl, hb⟩; refine ⟨_, rfl, ?_⟩; have n0_ := zM (ze (by (with_reducible repeat (first | apply zI | apply zJ | apply zK)); exact HO_3.out) hb); have n1_ := zM (ze (by (with_reducible repeat (first | apply zI | apply zJ | apply zK)); exact HO_4.out) hb); have n2_ := zM (z7 (g := gb187) (o := .cells #[.int .i64 ((rd_T39 l0 x10_1).f0), .int .i64 ((rd_T39 l0 x10_1).f1), .int .i64 ((rd_T39 l0 x10_1).f2), .int .i64 ((rd_T39 l0 x10_1).f3.f0), .int .i64 ((rd_T39 l0 x10_1).f3.f1), .int .i64 ((rd_T39 l0 x10_1).f3.f2)] 39 (0, 0)) zk hb); have n3_ := zM (Kept.below (S := (fun k_ => P3_ k_ ∨ P4_ k_)) (by repeat (first | (with_reducible first | exact HK.out | apply Kept.alloc | apply Kept.drewN | apply Kept.drew | refine Kept.setCell ?_ (.inr GW187.out) _) | exact HK.out)) hb); have n4_ := zM (zQ zb hb); clear HO_3; clear HO_4; clear BK187; clear HK; clear HB; have HO_3 := n0_; have HO_4 := n1_; have BK187 := n2_; have HK := n3_; have HB := n4_; clear n0_ n1_ n2_ n3_ n4_; (try clear hb); (try clear hk)) | ((with_reducible refine gate_dst (N := 64) rfl ?_); refine Kd.R_lit Kd.bool _ 4 ?hg (N := 64) ?hd (xs := ([] : List Bool)) (inner := []) (ok := fun _ => True) (okp := fun _ => True) ?hr ?hp (fun _ hk => hk) trivial (Below.refl _ _) (Nat.le_refl _) (by simp) ?_; (case hd => rfl); (case hg => rfl); (case hr => first | (go_simp; done) | (go_simp; rfl)); (case hp => exact (Reps.none _ _)); intro v195 w56 ho57 hb hg_ hnew_; clear hg_ hnew_; (first | rw [← Ny194.out] at ho57 | (simp only [Int.reduceToNat] at ho57; rw [← Ny194.out] at ho57)); have n0_ := zM (Kd.R_elder' (by (with_reducible repeat (first | apply zI | apply zJ | apply zK)); exact HO_3.out) (Kd.R_base ho57) hb); have n1_ := zM (Kd.R_elder' (by (with_reducible repeat (first | apply zI | apply zJ | apply zK)); exact HO_4.out) (Kd.R_base ho57) hb); have n2_ := zM (zf (Kd.R_new' (Kd.R_new' (Kd.R_newM (M := fun k_ => ((P3_ k_ ∨ P4_ k_) ∨ w.heap.size ≤ k_)) ho57 (by first | exact HK.out.1 | exact (show Kept w _ (fun k_ => P3_ k_ ∨ P4_ k_) from by repeat (first | (with_reducible first | exact HK.out | apply Kept.alloc | apply Kept.drewN | apply Kept.drew | refine Kept.setCell ?_ (.inr GW187.out) _) | exact HK.out)).1) (fun k_ h_ => .inr h_)) (Kd.R_lt (by (with_reducible repeat (first | apply zI | apply zJ | apply zK)); exact HO_3.out))) (Kd.R_lt (by (with_reducible repeat (first | apply zI | apply zJ | apply zK)); exact HO_4.out))) (zR zb)); have n3_ := zM (z7 (g := gb187) (o := .cells #[.int .i64 ((rd_T39 l0 x10_1).f0), .int .i64 ((rd_T39 l0 x10_1).f1), .int .i64 ((rd_T39 l0 x10_1).f2), .int .i64 ((rd_T39 l0 x10_1).f3.f0), .int .i64 ((rd_T39 l0 x10_1).f3.f1), .int .i64 ((rd_T39 l0 x10_1).f3.f2)] 39 (0, 0)) zk hb); have n4_ := zM (Kept.below (S := (fun k_ => P3_ k_ ∨ P4_ k_)) (by repeat (first | (with_reducible first | exact HK.out | apply Kept.alloc | apply Kept.drewN | apply Kept.drew | refine Kept.setCell ?_ (.inr GW187.out) _) | exact HK.out)) hb); have n5_ := zM (zQ zb hb); clear HO_3; clear HO_4; clear BK187; clear HK; clear HB; have HO_3 := n0_; have HO_4 := n1_; have HO196 := n2_; have BK187 := n3_; have HK := n4_; have HB := n5_; clear n0_ n1_ n2_ n3_ n4_ n5_; clear hb ho57) | ((with_reducible refine gate_builtin (b := .append) (xs := #[.tmp 64, .tmp 65]) rfl ?_); at_builtin; refine Kd.R_append_rows Kd.bool (w0 := w0) w0.heap.size rfl (.tmp 64) (.tmp 65) 67 4 (.bool false) 1 rfl Try.underlying67 info4 rfl (by decide) (by omega) v195 y194 x3_1 _ _ _ (fun k_ => ((P3_ k_ ∨ P4_ k_) ∨ w.heap.size ≤ k_) ∧ some k_ ≠ (.slice Ao53 x3_1.length co53 : Value).ownBlock ∧ some k_ ≠ (.slice Ao52 x4_1.length co52 : Value).ownBlock) (fun _ => False) rfl rfl ?aO ?aR (fun _ _ h => h) (fun _ h => h.elim) ?aF ?aB ?aS ?aL ?_; (case aR => repeat (first | exact (z9 HO_3.out).2.2 | (with_reducible refine zF ?_ _) | (with_reducible refine zG ?_ _) | (with_reducible refine zH ?_))); (case aB => exact zb); (case aF => exact (fun k_ hk => ⟨(.inr (Nat.le_trans (by first | exact HK.out.1 | exact (show Kept w _ (fun k_ => P3_ k_ ∨ P4_ k_) from by repeat (first | (with_reducible first | exact HK.out | apply Kept.alloc | apply Kept.drewN | apply Kept.drew | refine Kept.setCell ?_ (.inr GW187.out) _) | exact HK.out)).1) hk)), Kd.fresh' (Kd.R_lt (by (with_reducible repeat (first | apply zI | apply zJ | apply zK)); exact HO_3.out)) k_ hk, Kd.fresh' (Kd.R_lt (by (with_reducible repeat (first | apply zI | apply zJ | apply zK)); exact HO_4.out)) k_ hk⟩)); (case aO => exact (by (with_reducible repeat (first | apply zI | apply zJ | apply zK)); exact z1 HO196.out (fun _ hk => ⟨hk.1.1.1, ⟨hk.1.2, hk.2⟩⟩))); (case aS => exact (zR zb)); (case aL => have := LMc46.out; omega); intro v198 w58 ho hb hg hat; (first | rw [← Ny197.out] at ho | (simp only [Int.reduceToNat] at ho; rw [← Ny197.out] at ho)); have n0_ := zM (Kd.R_after (ok := (fun k_ => ((P3_ k_ ∨ P4_ k_) ∨ w.heap.size ≤ k_) ∧ some k_ ≠ (.slice Ao52 x4_1.length co52 : Value).ownBlock)) (by (with_reducible repeat (first | apply zI | apply zJ | apply zK)); exact HO_3.out) hg hat); have n1_ := zM (Kd.R_after (ok := (fun k_ => ((P3_ k_ ∨ P4_ k_) ∨ w.heap.size ≤ k_) ∧ some k_ ≠ (.slice Ao53 x3_1.length co53 : Value).ownBlock)) (by (with_reducible repeat (first | apply zI | apply zJ | apply zK)); exact HO_4.out) hg hat); have n2_ := zM (blk_grown (g := gb187) (o := .cells #[.int .i64 ((rd_T39 l0 x10_1).f0), .int .i64 ((rd_T39 l0 x10_1).f1), .int .i64 ((rd_T39 l0 x10_1).f2), .int .i64 ((rd_T39 l0 x10_1).f3.f0), .int .i64 ((rd_T39 l0 x10_1).f3.f1), .int .i64 ((rd_T39 l0 x10_1).f3.f2)] 39 (0, 0)) zk hg (Kd.R_ne HO196.out BK187.out (by decide))); have n3_ := zM (hb); have n4_ := zM (Kept.of_grown (S := (fun k_ => P3_ k_ ∨ P4_ k_)) hg (by repeat (first | (with_reducible first | exact HK.out | apply Kept.alloc | apply Kept.drewN | apply Kept.drew | refine Kept.setCell ?_ (.inr GW187.out) _) | exact HK.out)) (fun k_ e_ => (HO196.out.1 k_ e_).1.1.1)); have n5_ := zM (ho); clear HO_3; clear HO_4; clear BK187; clear HB; clear HK; clear HO196; have HO_3 := n0_; have HO_4 := n1_; have BK187 := n2_; have HB := n3_; have HK := n4_; have HO199 := n5_; clear n0_ n1_ n2_ n3_ n4_ n5_; clear ho hb hg hat; obtain ⟨Ao59, co59, eo59⟩ := Kd.R_slice HO199.out; subst eo59) | ((with_reducible refine gate_callee (f := 60) rfl ?_); refine goesL_ (some 68) rfl rfl Try.func60 (by kernel_rfl) rfl #[.slice (some ad186) l0.length c0, .int .i64 (wrap64 (x10_1 + 1)), .int .i64 t193, .slice Ao59 y197.length co59, .slice Ao52 x4_1.length co52] rfl zg ?_; (with_reducible refine (ih k1 (by have := HK1.out; omega) _ _ l0 (wrap64 (x10_1 + 1)) t193 (fun k_ => some k_ = (.slice Ao59 y197.length co59 : Value).ownBlock) (.slice Ao59 y197.length co59) y197 (fun k_ => some k_ = (.slice Ao52 x4_1.length co52 : Value).ownBlock) (.slice Ao52 x4_1.length co52) t192 t200 t201 w0 _ ?side1 ?side2 ?side3 ?side4 ?side5 ?side6 ?side7 A47.out).mono ?_); (case side1 => repeat (first | (with_reducible first | exact HB.out | apply z2 | apply z3 | apply z4 | refine zS ?_ GE187.out) | exact HB.out)); (case side2 => exact Kd.C_kept_call HR0.out (by repeat (first | (with_reducible first | exact HK.out | apply Kept.alloc | apply Kept.drewN | apply Kept.drew | refine Kept.setCell ?_ (.inr GW187.out) _) | exact HK.out)) (fun k_ hs_ => Or.elim hs_ (fun e_ => (fun e_ => (HO199.out.1 k_ e_.symm).1) e_) (fun e_ => (fun e_ => (HO_4.out.1 k_ e_.symm).1.1) e_))); (case side3 => exact HC0.out); (case side4 => exact Kd.R_tight rfl HO199.out); (case side5 => exact fun k_ e_ => (HO199.out.1 k_ e_.symm).2.2); (case side6 => exact Kd.R_tight rfl HO_4.out); (case side7 => exact fun k_ e_ => (HO_4.out.1 k_ e_.symm).2); rintro e w60 ⟨rfl, hy0, hy1, hb, hkp⟩; refine ⟨_, rfl, ?_⟩; have n0_ := zM (z1 (ok' := fun k_ => ((P3_ k_ ∨ P4_ k_) ∨ w.heap.size ≤ k_) ∧ some k_ ≠ (.slice Ao52 x4_1.length co52 : Value).ownBlock ∧ some k_ ≠ (.slice Ao59 y197.length co59 : Value).ownBlock) (Kd.R_keptB (HO_3.out) hkp (fun k_ hk_ hs_ => Or.elim hs_ (fun e_ => (hk_.2) e_) (fun e_ => (hk_.1.2) e_))) (fun k_ hk_ => ⟨hk_.1.1.1, hk_.1.1.2, hk_.1.2⟩)); have n1_ := zM (Kd.R_reok rfl hy1 (fun k_ e_ => HO_4.out.1 k_ e_)); have n2_ := zM (blk_kept zk hkp (fun hs_ => Or.elim hs_ (fun e_ => (fun e_ => (Kd.R_ne HO199.out BK187.out (by decide)) e_) e_) (fun e_ => (fun e_ => (Kd.R_ne HO_4.out BK187.out (by decide)) e_) e_))); have n3_ := zM (Kd.R_reok rfl hy0 (fun k_ e_ => HO199.out.1 k_ e_)); have n4_ := zM (Kept.then_ (S := (fun k_ => P3_ k_ ∨ P4_ k_)) (by repeat (first | (with_reducible first | exact HK.out | apply Kept.alloc | apply Kept.drewN | apply Kept.drew | refine Kept.setCell ?_ (.inr GW187.out) _) | exact HK.out)) hkp (fun k_ hs_ => Or.elim hs_ (fun e_ => (fun e_ => (HO199.out.1 k_ e_.symm).1) e_) (fun e_ => (fun e_ => (HO_4.out.1 k_ e_.symm).1.1) e_))); have n5_ := zM (hb); clear HO_3; clear HO_4; clear BK187; clear HO199; clear HK; clear HB; have HO_3 := n0_; have HO_4 := n1_; have BK187 := n2_; have HO199 := n3_; have HK := n4_; have HB := n5_; clear n0_ n1_ n2_ n3_ n4_ n5_; (try clear hb); (try clear hkp); (try clear hy0); (try clear hy1)))
           go_roundg k1
           case measure => have := HK1.out; omega
           case rel => exact ⟨(x3_1), (t201), (wrap64 (t193 + 1)), zs, H', ⟨by have := HK1.out; omega⟩, ⟨by (with_reducible repeat (first | apply zI | apply zJ | apply zK)); exact z1 HO_3.out (fun _ hk => ⟨hk.1, hk.2.1⟩)⟩, ⟨by (with_reducible repeat (first | apply zI | apply zJ | apply zK)); exact z1 HO_4.out (fun _ hk => ⟨hk.1.1, hk.1.2⟩)⟩, ⟨by repeat (first | (with_reducible first | exact HK.out | apply Kept.alloc | apply Kept.drewN | apply Kept.drew | refine Kept.setCell ?_ (.inr GW187.out) _) | exact HK.out)⟩, ⟨zb⟩⟩
          ·rw [if_neg c46] at H
           exact absurd H (by simp)
         ·rw [if_neg c43] at H
          have c43b0 : (((rd_T39 l0 x10_1).f0) == 4) = false := beq_eq_false_iff_ne.mpr c43
          have c43b1 : (((rd_T39 l0 x10_1).f0) != 4) = true := bne_iff_ne.mpr c43
          by_cases c61 : ((rd_T39 l0 x10_1).f0) = 5
          ·rw [if_pos c61] at H
           have c61b0 : (((rd_T39 l0 x10_1).f0) == 5) = true := beq_iff_eq.mpr c61
           have c61b1 : (((rd_T39 l0 x10_1).f0) != 5) = false := bne_eq_false_iff_eq.mpr c61
           clear c61
           replace H := Option.bind_eq_some_iff.mp H
           obtain ⟨t202, A620, H⟩ := H
           replace H : ((spec_l07Pass.f k1 l0 (wrap64 (x10_1 + 1)) t202 x3_1 x4_1).bind fun bt203 => (spec_l07Pass.l0 k1 l0 a2 bt203.1 bt203.2 (wrap64 (t202 + 1)))) = some (r1, r2) := H
           have A62 := zM A620
           clear A620
           replace H := Option.bind_eq_some_iff.mp H
           obtain ⟨⟨t203, t204⟩, A630, H⟩ := H
           replace H : (spec_l07Pass.l0 k1 l0 a2 t203 t204 (wrap64 (t202 + 1))) = some (r1, r2) := H
           have A63 := zM A630
           clear A630
           have H' := zM H
           clear H
           have p186 : 0 ≤ (x10_1 : Int) := zd
           have q186 : x10_1 < (l0.length : Int) := zd
           obtain ⟨ad186, e186, hx186_0, hx186_1, hx186_2, hx186_3, hx186_4, hx186_5⟩ := at_T39 (Kd.C_kept_now HR0.out HK.out) x10_1 p186 q186
           cases e186
           replace p186 := eq_true p186
           replace q186 := eq_true q186
           go_wp2_with (first | ((with_reducible refine gate_dst (N := 11) rfl ?_); refine box_event ?hg (N := 11) ?hd (cs := #[.int .i64 0, .int .i64 0, .int .i64 0, .int .i64 0, .int .i64 0, .int .i64 0]) (t := 39) ?hr ?_; (case hd => rfl); (case hg => rfl); (case hr => first | (go_simp; done) | (go_simp; rfl)); intro gb187 hg w64 hbox hb; have n0_ := zM (ze (by (with_reducible repeat (first | apply zI | apply zJ | apply zK)); exact HO_3.out) hb); have n1_ := zM (ze (by (with_reducible repeat (first | apply zI | apply zJ | apply zK)); exact HO_4.out) hb); have n2_ := zM (Kept.below (S := (fun k_ => P3_ k_ ∨ P4_ k_)) (by repeat (first | (with_reducible first | exact HK.out | apply Kept.alloc | apply Kept.drewN | apply Kept.drew) | exact HK.out)) hb); have n3_ := zM (zQ zb hb); have n4_ := zM (hbox); have n5_ := zM ((by rw [hg]; exact (by first | exact HK.out.1 | exact (show Kept w _ (fun k_ => P3_ k_ ∨ P4_ k_) from by repeat (first | (with_reducible first | exact HK.out | apply Kept.alloc | apply Kept.drewN | apply Kept.drew) | exact HK.out)).1) : w.heap.size ≤ gb187)); have n6_ := zM ((by rw [hg]; exact (zR zb) : w0.heap.size ≤ gb187)); clear HO_3; clear HO_4; clear HK; clear HB; have HO_3 := n0_; have HO_4 := n1_; have HK := n2_; have HB := n3_; have BK187 := n4_; have GW187 := n5_; have GE187 := n6_; clear n0_ n1_ n2_ n3_ n4_ n5_ n6_; clear hb hbox hg; have hcz65_0 := (z5 BK187.out 0).trans rfl; have hcz65_1 := (z5 BK187.out 1).trans rfl; have hcz65_2 := (z5 BK187.out 2).trans rfl; have hcz65_3 := (z5 BK187.out 3).trans rfl; have hcz65_4 := (z5 BK187.out 4).trans rfl; have hcz65_5 := (z5 BK187.out 5).trans rfl; have hfz65_0 := z6 BK187.out 0; have hfz65_1 := z6 BK187.out 1; have hfz65_2 := z6 BK187.out 2; have hfz65_3 := z6 BK187.out 3; have hfz65_4 := z6 BK187.out 4; have hfz65_5 := z6 BK187.out 5) | ((with_reducible refine gate_callee (f := 53) rfl ?_); refine goesL_ (some 74) rfl rfl Try.func53 (by kernel_rfl) rfl #[.slice (some ad186) l0.length c0, .int .i64 x10_1] rfl zg ?_; (with_reducible refine (spec_l05End.calls k1 _ _ l0 x10_1 t202 _ ?side1 ?side2 A62.out).mono ?_); (case side1 => exact Kd.C_kept_now HR0.out (by repeat (first | (with_reducible first | exact HK.out | apply Kept.alloc | apply Kept.drewN | apply Kept.drew | refine Kept.setCell ?_ (.inr GW187.out) _) | exact HK.out))); (case side2 => exact HC0.out); rintro e w66 ⟨rfl, hb⟩; refine ⟨_, rfl, ?_⟩; have n0_ := zM (ze (by (with_reducible repeat (first | apply zI | apply zJ | apply zK)); exact (z1 (zc (p := ⟨gb187, 5, none⟩) (zc (p := ⟨gb187, 4, none⟩) (zc (p := ⟨gb187, 3, none⟩) (zc (p := ⟨gb187, 2, none⟩) (zc (p := ⟨gb187, 1, none⟩) (zc (p := ⟨gb187, 0, none⟩) (Kd.R_types HO_3.out BK187.out (by decide)) (fun _ hk => hk.2) (.int .i64 ((rd_T39 l0 x10_1).f0))) (fun _ hk => hk.2) (.int .i64 ((rd_T39 l0 x10_1).f1))) (fun _ hk => hk.2) (.int .i64 ((rd_T39 l0 x10_1).f2))) (fun _ hk => hk.2) (.int .i64 ((rd_T39 l0 x10_1).f3.f0))) (fun _ hk => hk.2) (.int .i64 ((rd_T39 l0 x10_1).f3.f1))) (fun _ hk => hk.2) (.int .i64 ((rd_T39 l0 x10_1).f3.f2))) (fun _ h_ => h_.1))) hb); have n1_ := zM (ze (by (with_reducible repeat (first | apply zI | apply zJ | apply zK)); exact (z1 (zc (p := ⟨gb187, 5, none⟩) (zc (p := ⟨gb187, 4, none⟩) (zc (p := ⟨gb187, 3, none⟩) (zc (p := ⟨gb187, 2, none⟩) (zc (p := ⟨gb187, 1, none⟩) (zc (p := ⟨gb187, 0, none⟩) (Kd.R_types HO_4.out BK187.out (by decide)) (fun _ hk => hk.2) (.int .i64 ((rd_T39 l0 x10_1).f0))) (fun _ hk => hk.2) (.int .i64 ((rd_T39 l0 x10_1).f1))) (fun _ hk => hk.2) (.int .i64 ((rd_T39 l0 x10_1).f2))) (fun _ hk => hk.2) (.int .i64 ((rd_T39 l0 x10_1).f3.f0))) (fun _ hk => hk.2) (.int .i64 ((rd_T39 l0 x10_1).f3.f1))) (fun _ hk => hk.2) (.int .i64 ((rd_T39 l0 x10_1).f3.f2))) (fun _ h_ => h_.1))) hb); have n2_ := zM (z7 (g := gb187) (o := .cells #[.int .i64 ((rd_T39 l0 x10_1).f0), .int .i64 ((rd_T39 l0 x10_1).f1), .int .i64 ((rd_T39 l0 x10_1).f2), .int .i64 ((rd_T39 l0 x10_1).f3.f0), .int .i64 ((rd_T39 l0 x10_1).f3.f1), .int .i64 ((rd_T39 l0 x10_1).f3.f2)] 39 (0, 0)) (by (with_reducible repeat (first | refine zN ?_ _ | refine zO ?_ | refine zP ?_ _)); refine blk_put (cs := #[.int .i64 ((rd_T39 l0 x10_1).f0), .int .i64 ((rd_T39 l0 x10_1).f1), .int .i64 ((rd_T39 l0 x10_1).f2), .int .i64 ((rd_T39 l0 x10_1).f3.f0), .int .i64 ((rd_T39 l0 x10_1).f3.f1), .int .i64 0]) ?_ 5 _ rfl; (with_reducible repeat (first | refine zN ?_ _ | refine zO ?_ | refine zP ?_ _)); refine blk_put (cs := #[.int .i64 ((rd_T39 l0 x10_1).f0), .int .i64 ((rd_T39 l0 x10_1).f1), .int .i64 ((rd_T39 l0 x10_1).f2), .int .i64 ((rd_T39 l0 x10_1).f3.f0), .int .i64 0, .int .i64 0]) ?_ 4 _ rfl; (with_reducible repeat (first | refine zN ?_ _ | refine zO ?_ | refine zP ?_ _)); refine blk_put (cs := #[.int .i64 ((rd_T39 l0 x10_1).f0), .int .i64 ((rd_T39 l0 x10_1).f1), .int .i64 ((rd_T39 l0 x10_1).f2), .int .i64 0, .int .i64 0, .int .i64 0]) ?_ 3 _ rfl; (with_reducible repeat (first | refine zN ?_ _ | refine zO ?_ | refine zP ?_ _)); refine blk_put (cs := #[.int .i64 ((rd_T39 l0 x10_1).f0), .int .i64 ((rd_T39 l0 x10_1).f1), .int .i64 0, .int .i64 0, .int .i64 0, .int .i64 0]) ?_ 2 _ rfl; (with_reducible repeat (first | refine zN ?_ _ | refine zO ?_ | refine zP ?_ _)); refine blk_put (cs := #[.int .i64 ((rd_T39 l0 x10_1).f0), .int .i64 0, .int .i64 0, .int .i64 0, .int .i64 0, .int .i64 0]) ?_ 1 _ rfl; (with_reducible repeat (first | refine zN ?_ _ | refine zO ?_ | refine zP ?_ _)); refine blk_put (cs := #[.int .i64 0, .int .i64 0, .int .i64 0, .int .i64 0, .int .i64 0, .int .i64 0]) ?_ 0 _ rfl; (with_reducible repeat (first | refine zN ?_ _ | refine zO ?_ | refine zP ?_ _)); exact BK187.out) hb); have n3_ := zM (Kept.below (S := (fun k_ => P3_ k_ ∨ P4_ k_)) (by repeat (first | (with_reducible first | exact HK.out | apply Kept.alloc | apply Kept.drewN | apply Kept.drew | refine Kept.setCell ?_ (.inr GW187.out) _) | exact HK.out)) hb); have n4_ := zM (zQ zb hb); clear HO_3; clear HO_4; clear BK187; clear HK; clear HB; have HO_3 := n0_; have HO_4 := n1_; have BK187 := n2_; have HK := n3_; have HB := n4_; clear n0_ n1_ n2_ n3_ n4_; (try clear hb); (try clear hk); obtain ⟨Ao67, co67, eo67⟩ := Kd.R_slice HO_3.out; subst eo67; obtain ⟨Ao68, co68, eo68⟩ := Kd.R_slice HO_4.out; subst eo68) | ((with_reducible refine gate_callee (f := 60) rfl ?_); refine goesL_ (some 81) rfl rfl Try.func60 (by kernel_rfl) rfl #[.slice (some ad186) l0.length c0, .int .i64 (wrap64 (x10_1 + 1)), .int .i64 t202, .slice Ao67 x3_1.length co67, .slice Ao68 x4_1.length co68] rfl zg ?_; (with_reducible refine (ih k1 (by have := HK1.out; omega) _ _ l0 (wrap64 (x10_1 + 1)) t202 (fun k_ => some k_ = (.slice Ao67 x3_1.length co67 : Value).ownBlock) (.slice Ao67 x3_1.length co67) x3_1 (fun k_ => some k_ = (.slice Ao68 x4_1.length co68 : Value).ownBlock) (.slice Ao68 x4_1.length co68) x4_1 t203 t204 w0 _ ?side1 ?side2 ?side3 ?side4 ?side5 ?side6 ?side7 A63.out).mono ?_); (case side1 => repeat (first | (with_reducible first | exact HB.out | apply z2 | apply z3 | apply z4 | refine zS ?_ GE187.out) | exact HB.out)); (case side2 => exact Kd.C_kept_call HR0.out (by repeat (first | (with_reducible first | exact HK.out | apply Kept.alloc | apply Kept.drewN | apply Kept.drew | refine Kept.setCell ?_ (.inr GW187.out) _) | exact HK.out)) (fun k_ hs_ => Or.elim hs_ (fun e_ => (fun e_ => (HO_3.out.1 k_ e_.symm).1) e_) (fun e_ => (fun e_ => (HO_4.out.1 k_ e_.symm).1) e_))); (case side3 => exact HC0.out); (case side4 => exact Kd.R_tight rfl HO_3.out); (case side5 => exact fun k_ e_ => (HO_3.out.1 k_ e_.symm).2); (case side6 => exact Kd.R_tight rfl HO_4.out); (case side7 => exact fun k_ e_ => (HO_4.out.1 k_ e_.symm).2); rintro e w69 ⟨rfl, hy0, hy1, hb, hkp⟩; refine ⟨_, rfl, ?_⟩; have n0_ := zM (Kd.R_reok rfl hy0 (fun k_ e_ => HO_3.out.1 k_ e_)); have n1_ := zM (Kd.R_reok rfl hy1 (fun k_ e_ => HO_4.out.1 k_ e_)); have n2_ := zM (blk_kept zk hkp (fun hs_ => Or.elim hs_ (fun e_ => (fun e_ => (Kd.R_ne HO_3.out BK187.out (by decide)) e_) e_) (fun e_ => (fun e_ => (Kd.R_ne HO_4.out BK187.out (by decide)) e_) e_))); have n3_ := zM (Kept.then_ (S := (fun k_ => P3_ k_ ∨ P4_ k_)) (by repeat (first | (with_reducible first | exact HK.out | apply Kept.alloc | apply Kept.drewN | apply Kept.drew | refine Kept.setCell ?_ (.inr GW187.out) _) | exact HK.out)) hkp (fun k_ hs_ => Or.elim hs_ (fun e_ => (fun e_ => (HO_3.out.1 k_ e_.symm).1) e_) (fun e_ => (fun e_ => (HO_4.out.1 k_ e_.symm).1) e_))); have n4_ := zM (hb); clear HO_3; clear HO_4; clear BK187; clear HK; clear HB; have HO_3 := n0_; have HO_4 := n1_; have BK187 := n2_; have HK := n3_; have HB := n4_; clear n0_ n1_ n2_ n3_ n4_; (try clear hb); (try clear hkp); (try clear hy0); (try clear hy1)))
           go_roundg k1
           case measure => have := HK1.out; omega
           case rel => exact ⟨(t203), (t204), (wrap64 (t202 + 1)), zs, H', ⟨by have := HK1.out; omega⟩, ⟨by (with_reducible repeat (first | apply zI | apply zJ | apply zK)); exact HO_3.out⟩, ⟨by (with_reducible repeat (first | apply zI | apply zJ | apply zK)); exact HO_4.out⟩, ⟨by repeat (first | (with_reducible first | exact HK.out | apply Kept.alloc | apply Kept.drewN | apply Kept.drew | refine Kept.setCell ?_ (.inr GW187.out) _) | exact HK.out)⟩, ⟨zb⟩⟩
          ·rw [if_neg c61] at H
           have c61b0 : (((rd_T39 l0 x10_1).f0) == 5) = false := beq_eq_false_iff_ne.mpr c61
           have c61b1 : (((rd_T39 l0 x10_1).f0) != 5) = true := bne_iff_ne.mpr c61
           have H' := zM H
           clear H
           have p186 : 0 ≤ (x10_1 : Int) := zd
           have q186 : x10_1 < (l0.length : Int) := zd
           obtain ⟨ad186, e186, hx186_0, hx186_1, hx186_2, hx186_3, hx186_4, hx186_5⟩ := at_T39 (Kd.C_kept_now HR0.out HK.out) x10_1 p186 q186
           cases e186
           replace p186 := eq_true p186
           replace q186 := eq_true q186
           go_wp2_with (first | ((with_reducible refine gate_dst (N := 11) rfl ?_); refine box_event ?hg (N := 11) ?hd (cs := #[.int .i64 0, .int .i64 0, .int .i64 0, .int .i64 0, .int .i64 0, .int .i64 0]) (t := 39) ?hr ?_; (case hd => rfl); (case hg => rfl); (case hr => first | (go_simp; done) | (go_simp; rfl)); intro gb187 hg w70 hbox hb; have n0_ := zM (ze (by (with_reducible repeat (first | apply zI | apply zJ | apply zK)); exact HO_3.out) hb); have n1_ := zM (ze (by (with_reducible repeat (first | apply zI | apply zJ | apply zK)); exact HO_4.out) hb); have n2_ := zM (Kept.below (S := (fun k_ => P3_ k_ ∨ P4_ k_)) (by repeat (first | (with_reducible first | exact HK.out | apply Kept.alloc | apply Kept.drewN | apply Kept.drew) | exact HK.out)) hb); have n3_ := zM (zQ zb hb); have n4_ := zM (hbox); have n5_ := zM ((by rw [hg]; exact (by first | exact HK.out.1 | exact (show Kept w _ (fun k_ => P3_ k_ ∨ P4_ k_) from by repeat (first | (with_reducible first | exact HK.out | apply Kept.alloc | apply Kept.drewN | apply Kept.drew) | exact HK.out)).1) : w.heap.size ≤ gb187)); have n6_ := zM ((by rw [hg]; exact (zR zb) : w0.heap.size ≤ gb187)); clear HO_3; clear HO_4; clear HK; clear HB; have HO_3 := n0_; have HO_4 := n1_; have HK := n2_; have HB := n3_; have BK187 := n4_; have GW187 := n5_; have GE187 := n6_; clear n0_ n1_ n2_ n3_ n4_ n5_ n6_; clear hb hbox hg; have hcz71_0 := (z5 BK187.out 0).trans rfl; have hcz71_1 := (z5 BK187.out 1).trans rfl; have hcz71_2 := (z5 BK187.out 2).trans rfl; have hcz71_3 := (z5 BK187.out 3).trans rfl; have hcz71_4 := (z5 BK187.out 4).trans rfl; have hcz71_5 := (z5 BK187.out 5).trans rfl; have hfz71_0 := z6 BK187.out 0; have hfz71_1 := z6 BK187.out 1; have hfz71_2 := z6 BK187.out 2; have hfz71_3 := z6 BK187.out 3; have hfz71_4 := z6 BK187.out 4; have hfz71_5 := z6 BK187.out 5))
           go_roundg k1
           case measure => have := HK1.out; omega
           case rel => exact ⟨(x3_1), (x4_1), (wrap64 (x10_1 + 1)), zs, H', ⟨by have := HK1.out; omega⟩, ⟨by (with_reducible repeat (first | apply zI | apply zJ | apply zK)); exact z1 (zc (p := ⟨gb187, 5, none⟩) (zc (p := ⟨gb187, 4, none⟩) (zc (p := ⟨gb187, 3, none⟩) (zc (p := ⟨gb187, 2, none⟩) (zc (p := ⟨gb187, 1, none⟩) (zc (p := ⟨gb187, 0, none⟩) (Kd.R_types HO_3.out BK187.out (by decide)) (fun _ hk => hk.2) (.int .i64 ((rd_T39 l0 x10_1).f0))) (fun _ hk => hk.2) (.int .i64 ((rd_T39 l0 x10_1).f1))) (fun _ hk => hk.2) (.int .i64 ((rd_T39 l0 x10_1).f2))) (fun _ hk => hk.2) (.int .i64 ((rd_T39 l0 x10_1).f3.f0))) (fun _ hk => hk.2) (.int .i64 ((rd_T39 l0 x10_1).f3.f1))) (fun _ hk => hk.2) (.int .i64 ((rd_T39 l0 x10_1).f3.f2))) (fun _ hk => ⟨hk.1.1, hk.1.2⟩)⟩, ⟨by (with_reducible repeat (first | apply zI | apply zJ | apply zK)); exact z1 (zc (p := ⟨gb187, 5, none⟩) (zc (p := ⟨gb187, 4, none⟩) (zc (p := ⟨gb187, 3, none⟩) (zc (p := ⟨gb187, 2, none⟩) (zc (p := ⟨gb187, 1, none⟩) (zc (p := ⟨gb187, 0, none⟩) (Kd.R_types HO_4.out BK187.out (by decide)) (fun _ hk => hk.2) (.int .i64 ((rd_T39 l0 x10_1).f0))) (fun _ hk => hk.2) (.int .i64 ((rd_T39 l0 x10_1).f1))) (fun _ hk => hk.2) (.int .i64 ((rd_T39 l0 x10_1).f2))) (fun _ hk => hk.2) (.int .i64 ((rd_T39 l0 x10_1).f3.f0))) (fun _ hk => hk.2) (.int .i64 ((rd_T39 l0 x10_1).f3.f1))) (fun _ hk => hk.2) (.int .i64 ((rd_T39 l0 x10_1).f3.f2))) (fun _ hk => ⟨hk.1.1, hk.1.2⟩)⟩, ⟨by repeat (first | (with_reducible first | exact HK.out | apply Kept.alloc | apply Kept.drewN | apply Kept.drew | refine Kept.setCell ?_ (.inr GW187.out) _) | exact HK.out)⟩, ⟨zb⟩⟩
     ·rw [if_neg c8] at H
      exact absurd H (by simp)
    ·rw [if_neg c7] at H
     exact absurd H (by simp)
   ·rw [if_neg c6] at H
    have c6b0 : decide (x10_1 < a2) = false := decide_eq_false c6
    clear c6
    simp only [Option.some.injEq, Prod.mk.injEq] at H
    obtain ⟨rfl, rfl⟩ := H
    go_wp2
    first | go_end0 | ((try simp only [Exit.inBlock, Exit.then]); refine bodyPost_ret (results_none rfl _ _ _) rfl ?_)
    exact ⟨by first | rfl | (simp [errW_none, errW_some] <;> rfl) | (simp [*, errW_none, errW_some] <;> rfl), by (with_reducible repeat (first | apply zI | apply zJ | apply zK)); exact z1 HO_3.out (fun _ hk => hk.1), by (with_reducible repeat (first | apply zI | apply zJ | apply zK)); exact z1 HO_4.out (fun _ hk => hk.1), zb, by repeat (first | (with_reducible first | exact HK.out | apply Kept.alloc | apply Kept.drewN | apply Kept.drew) | exact HK.out)⟩

/-! ### spec_MayReadFirst: function 28 -/
def spec_MayReadFirst.j0 : Nat → List Bool → Bool → List (S39) → Int → Int → Int → Option (List Int)
 | 0, _, _, _, _, _, _ => none
 | k + 1, x3, x13, x206000, x206001, x206002, x206003 => if x13 = true then (if 8 ≤ 281474976710656 then ((spec_l07Pass.f k x206000 0 (x206000.length : Int) (List.replicate 8 false) x3).bind fun bt214 => ((spec_l07Note.f k bt214.2 bt214.1 x206001 x206002 x206003).bind fun t216 => ((spec_l07List.f k t216).bind fun t217 => (some t217)))) else (none)) else ((spec_l07List.f k x3).bind fun t220 => (some t220))
def spec_MayReadFirst.f (k : Nat) (l0_0 : List (S39)) (a0_1 : Int) (a0_2 : Int) (a0_3 : Int) : Option (List Int) := if 8 ≤ 281474976710656 then ((some (List.replicate 8 false : List Bool)).bind fun y206 => ((spec_BlockOk.f k l0_0).bind fun t209 => (if t209 = true then ((spec_ExprOk.f a0_1 a0_2 a0_3).bind fun t210 => (spec_MayReadFirst.j0 k y206 t210 l0_0 a0_1 a0_2 a0_3)) else (spec_MayReadFirst.j0 k y206 false l0_0 a0_1 a0_2 a0_3)))) else (none)
theorem spec_MayReadFirst.mono_l : ∀ k, (∀ y0 y1 y2 y3 y4 y5, LeO (spec_MayReadFirst.j0 k y0 y1 y2 y3 y4 y5) (spec_MayReadFirst.j0 (k + 1) y0 y1 y2 y3 y4 y5))
 | 0 => fun _ _ _ _ _ _ r h => by simp [spec_MayReadFirst.j0] at h
 | k + 1 => by
  have ih0 := spec_MayReadFirst.mono_l k
  ·intro y0 y1 y2 y3 y4 y5
   unfold spec_MayReadFirst.j0
   repeat' first
   | (with_reducible exact ih0 _ _ _ _ _ _)
   | (with_reducible exact spec_BlockOk.mono _ _)
   | (with_reducible exact spec_l07List.mono _ _)
   | (with_reducible exact spec_l07Note.mono _ _ _ _ _ _)
   | (with_reducible exact spec_l07Pass.mono _ _ _ _ _ _)
   | (with_reducible exact LeO.refl _)
   | (with_reducible exact LeO.none _)
   | (with_reducible refine LeO.ite ?_ ?_)
   | (with_reducible refine LeO.bind ?_ (fun _ => ?_))
   | exact ih0 _ _ _ _ _ _
   | exact spec_BlockOk.mono _ _
   | exact spec_l07List.mono _ _
   | exact spec_l07Note.mono _ _ _ _ _ _
   | exact spec_l07Pass.mono _ _ _ _ _ _
   | exact LeO.none _
   | refine LeO.ite ?_ ?_
   | refine LeO.bind ?_ (fun _ => ?_)
theorem spec_MayReadFirst.mono : ∀ a0 a1 a2 a3 k, LeO (spec_MayReadFirst.f k a0 a1 a2 a3) (spec_MayReadFirst.f (k + 1) a0 a1 a2 a3) := by
 intro a0 a1 a2 a3 k
 have ih0 := spec_MayReadFirst.mono_l k
 unfold spec_MayReadFirst.f
 repeat' first
   | (with_reducible exact ih0 _ _ _ _ _ _)
   | (with_reducible exact spec_BlockOk.mono _ _)
   | (with_reducible exact spec_l07List.mono _ _)
   | (with_reducible exact spec_l07Note.mono _ _ _ _ _ _)
   | (with_reducible exact spec_l07Pass.mono _ _ _ _ _ _)
   | (with_reducible exact LeO.refl _)
   | (with_reducible exact LeO.none _)
   | (with_reducible refine LeO.ite ?_ ?_)
   | (with_reducible refine LeO.bind ?_ (fun _ => ?_))
   | exact ih0 _ _ _ _ _ _
   | exact spec_BlockOk.mono _ _
   | exact spec_l07List.mono _ _
   | exact spec_l07Note.mono _ _ _ _ _ _
   | exact spec_l07Pass.mono _ _ _ _ _ _
   | exact LeO.none _
   | refine LeO.ite ?_ ?_
   | refine LeO.bind ?_ (fun _ => ?_)
set_option maxHeartbeats 8000000 in
set_option maxRecDepth 100000 in
theorem spec_MayReadFirst.calls (k : Nat) (A0_0 : Option Addr) (c0_0 : Nat) (l0_0 : List (S39)) (a0_1 : Int) (a0_2 : Int) (a0_3 : Int) (r : List Int) (w : World) (hr0_0 : Kd.C k39 w A0_0 l0_0.length l0_0) (hc0_0 : l0_0.length ≤ c0_0) (h : spec_MayReadFirst.f k l0_0 a0_1 a0_2 a0_3 = some r) :
  Calls Try.prog 28 #[.agg #[.slice A0_0 l0_0.length c0_0, .int .i64 a0_1, .int .i64 a0_2, .int .i64 a0_3]] w fun e w' => ∃ v0_ : Value, e = .returned (v0_) ∧ Kd.R (Kd.int .i64) 3 w' w.heap.size (fun _ => True) v0_ r ∧ Below w.heap.size w w' := by
 have hu47 := Try.underlying47
 have hu37 := Try.underlying37
 have HR0_0 := zM hr0_0
 have HC0_0 := zM hc0_0
 clear hr0_0 hc0_0
 have HB := zM (Below.refl w.heap.size w)
 have H : (if 8 ≤ 281474976710656 then ((some (List.replicate 8 false : List Bool)).bind fun y206 => ((spec_BlockOk.f k l0_0).bind fun t209 => (if t209 = true then ((spec_ExprOk.f a0_1 a0_2 a0_3).bind fun t210 => (spec_MayReadFirst.j0 k y206 t210 l0_0 a0_1 a0_2 a0_3)) else (spec_MayReadFirst.j0 k y206 false l0_0 a0_1 a0_2 a0_3)))) else (none)) = some r := h
 clear h
 by_cases c2 : 8 ≤ 281474976710656
 ·rw [if_pos c2] at H
  have c2b0 := eq_true c2
  have c2b1 : decide (8 ≤ 281474976710656) = true := decide_eq_true c2
  clear c2
  obtain ⟨y206, hyq⟩ : ∃ y_ : List Bool, y_ = (List.replicate 8 false) := ⟨_, rfl⟩
  replace H : ((spec_BlockOk.f k l0_0).bind fun t209 => (if t209 = true then ((spec_ExprOk.f a0_1 a0_2 a0_3).bind fun t210 => (spec_MayReadFirst.j0 k y206 t210 l0_0 a0_1 a0_2 a0_3)) else (spec_MayReadFirst.j0 k y206 false l0_0 a0_1 a0_2 a0_3))) = some r := zh
  have Ny206 := zM hyq
  clear hyq
  have HC3 := zM H
  clear H
  go_enter Try.func28, Try.ntmps28
  go_upto_region 2 with (first | ((with_reducible refine gate_dst (N := 1) rfl ?_); refine box_event ?hg (N := 1) ?hd (cs := #[.slice A0_0 l0_0.length c0_0, .int .i64 a0_1, .int .i64 a0_2, .int .i64 a0_3]) (t := 47) ?hr ?_; (case hd => rfl); (case hg => rfl); (case hr => first | (go_simp; done) | (go_simp; rfl)); intro gb205 hg w4 hbox hb; have n0_ := zM (zQ zb hb); have n1_ := zM (hbox); have n2_ := zM ((by rw [hg]; exact (zR zb) : w.heap.size ≤ gb205)); have n3_ := zM ((by rw [hg]; exact (zR zb) : w.heap.size ≤ gb205)); clear HB; have HB := n0_; have BK205 := n1_; have GW205 := n2_; have GE205 := n3_; clear n0_ n1_ n2_ n3_; clear hb hbox hg) | ((with_reducible refine gate_dst (N := 5) rfl ?_); refine Kd.R_make Kd.bool _ 4 rfl (N := 5) rfl 67 _ _ rfl 8 rfl rfl Try.underlying67 (.bool false) 1 info4 rfl (by decide) (by omega) false (ok := fun _ => True) (okp := fun _ => True) rfl (fun _ hk => hk) trivial (by omega) (by omega) (Below.refl _ _) (Nat.le_refl _) ?_; intro v207 w5 ho6 hb hg_ hnew_; clear hg_ hnew_; (first | rw [← Ny206.out] at ho6 | (simp only [Int.reduceToNat] at ho6; rw [← Ny206.out] at ho6)); have n0_ := zM (zf ho6 (zR zb)); have n1_ := zM (z7 (g := gb205) (o := .cells #[.slice A0_0 l0_0.length c0_0, .int .i64 a0_1, .int .i64 a0_2, .int .i64 a0_3] 47 (0, 0)) zk hb); have n2_ := zM (zQ zb hb); clear BK205; clear HB; have HO208 := n0_; have BK205 := n1_; have HB := n2_; clear n0_ n1_ n2_; clear hb ho6))
  (try simp only [Act.put, List.setIfInBounds_toArray, List.set_cons_zero, List.set_cons_succ])
  go_cut [13] (fun v13 wc => ∃ (kq : Nat) (x13_2 : Bool), v13 = .bool x13_2 ∧ Aside0 (spec_MayReadFirst.j0 kq y206 x13_2 l0_0 a0_1 a0_2 a0_3 = some r) ∧ Aside0 (kq ≤ k) ∧ Aside0 (Kd.R Kd.bool 4 wc w.heap.size (fun _ => True) v207 y206) ∧ Aside0 (wc.heap[gb205]? = some (.cells #[(.slice A0_0 l0_0.length c0_0), .int .i64 a0_1, .int .i64 a0_2, .int .i64 a0_3] 47 (0, 0))) ∧ Aside0 (Below w.heap.size w wc))
  case first =>
   have H := HC3.out
   clear HC3
   replace H := Option.bind_eq_some_iff.mp H
   obtain ⟨t209, A70, H⟩ := H
   replace H : (if t209 = true then ((spec_ExprOk.f a0_1 a0_2 a0_3).bind fun t210 => (spec_MayReadFirst.j0 k y206 t210 l0_0 a0_1 a0_2 a0_3)) else (spec_MayReadFirst.j0 k y206 false l0_0 a0_1 a0_2 a0_3)) = some r := H
   have A7 := zM A70
   clear A70
   by_cases c8 : t209 = true
   ·subst c8
    have H1 : ((spec_ExprOk.f a0_1 a0_2 a0_3).bind fun t210 => (spec_MayReadFirst.j0 k y206 t210 l0_0 a0_1 a0_2 a0_3)) = some r := by rw [if_pos rfl] at H; exact H
    clear H
    have H := H1
    clear H1
    replace H := Option.bind_eq_some_iff.mp H
    obtain ⟨t210, A90, H⟩ := H
    replace H : (spec_MayReadFirst.j0 k y206 t210 l0_0 a0_1 a0_2 a0_3) = some r := H
    have A9 := zM A90
    clear A90
    have H' := zM H
    clear H
    have hcz10_0 := (z5 BK205.out 0).trans rfl
    have hcz10_1 := (z5 BK205.out 1).trans rfl
    have hcz10_2 := (z5 BK205.out 2).trans rfl
    have hcz10_3 := (z5 BK205.out 3).trans rfl
    have hfz10_0 := z6 BK205.out 0
    have hfz10_1 := z6 BK205.out 1
    have hfz10_2 := z6 BK205.out 2
    have hfz10_3 := z6 BK205.out 3
    go_wp2_with (first | ((with_reducible refine gate_callee (f := 45) rfl ?_); refine goesL_ (some 8) rfl rfl Try.func45 (by kernel_rfl) rfl #[.slice A0_0 l0_0.length c0_0] rfl zg ?_; (with_reducible refine (spec_BlockOk.calls k _ _ l0_0 true _ ?side1 ?side2 A7.out).mono ?_); (case side1 => repeat (first | exact (zX HR0_0.out HB.out) | (with_reducible refine zF ?_ _) | (with_reducible refine zG ?_ _) | (with_reducible refine zH ?_))); (case side2 => exact HC0_0.out); rintro e w11 ⟨rfl, hb⟩; refine ⟨_, rfl, ?_⟩; have n0_ := zM (ze (by (with_reducible repeat (first | apply zI | apply zJ | apply zK)); exact HO208.out) hb); have n1_ := zM (z7 (g := gb205) (o := .cells #[.slice A0_0 l0_0.length c0_0, .int .i64 a0_1, .int .i64 a0_2, .int .i64 a0_3] 47 (0, 0)) zk hb); have n2_ := zM (zQ zb hb); clear HO208; clear BK205; clear HB; have HO208 := n0_; have BK205 := n1_; have HB := n2_; clear n0_ n1_ n2_; (try clear hb); have hcz12_0 := (z5 BK205.out 0).trans rfl; have hcz12_1 := (z5 BK205.out 1).trans rfl; have hcz12_2 := (z5 BK205.out 2).trans rfl; have hcz12_3 := (z5 BK205.out 3).trans rfl; have hfz12_0 := z6 BK205.out 0; have hfz12_1 := z6 BK205.out 1; have hfz12_2 := z6 BK205.out 2; have hfz12_3 := z6 BK205.out 3) | (go_at_call 59; (with_reducible refine (spec_ExprOk.calls a0_1 a0_2 a0_3 t210 _ A9.out).mono ?_); rintro e w13 ⟨rfl, hb⟩; have n0_ := zM (ze (by (with_reducible repeat (first | apply zI | apply zJ | apply zK)); exact HO208.out) hb); have n1_ := zM (z7 (g := gb205) (o := .cells #[.slice A0_0 l0_0.length c0_0, .int .i64 a0_1, .int .i64 a0_2, .int .i64 a0_3] 47 (0, 0)) zk hb); have n2_ := zM (zQ zb hb); clear HO208; clear BK205; clear HB; have HO208 := n0_; have BK205 := n1_; have HB := n2_; clear n0_ n1_ n2_; (try clear hb)))
    go_meet
    case rel => exact ⟨_, (t210), zs, H', ⟨by first | omega | exact Nat.le_refl _⟩, ⟨by (with_reducible repeat (first | apply zI | apply zJ | apply zK)); exact HO208.out⟩, ⟨zk⟩, ⟨zb⟩⟩
   ·replace c8 := Bool.eq_false_iff.mpr c8
    subst c8
    have H1 : (spec_MayReadFirst.j0 k y206 false l0_0 a0_1 a0_2 a0_3) = some r := by rw [if_neg (show ¬ (false = true) by decide)] at H; exact H
    clear H
    have H := H1
    clear H1
    have H' := zM H
    clear H
    have hcz14_0 := (z5 BK205.out 0).trans rfl
    have hcz14_1 := (z5 BK205.out 1).trans rfl
    have hcz14_2 := (z5 BK205.out 2).trans rfl
    have hcz14_3 := (z5 BK205.out 3).trans rfl
    have hfz14_0 := z6 BK205.out 0
    have hfz14_1 := z6 BK205.out 1
    have hfz14_2 := z6 BK205.out 2
    have hfz14_3 := z6 BK205.out 3
    go_wp2_with (first | ((with_reducible refine gate_callee (f := 45) rfl ?_); refine goesL_ (some 8) rfl rfl Try.func45 (by kernel_rfl) rfl #[.slice A0_0 l0_0.length c0_0] rfl zg ?_; (with_reducible refine (spec_BlockOk.calls k _ _ l0_0 false _ ?side1 ?side2 A7.out).mono ?_); (case side1 => repeat (first | exact (zX HR0_0.out HB.out) | (with_reducible refine zF ?_ _) | (with_reducible refine zG ?_ _) | (with_reducible refine zH ?_))); (case side2 => exact HC0_0.out); rintro e w15 ⟨rfl, hb⟩; refine ⟨_, rfl, ?_⟩; have n0_ := zM (ze (by (with_reducible repeat (first | apply zI | apply zJ | apply zK)); exact HO208.out) hb); have n1_ := zM (z7 (g := gb205) (o := .cells #[.slice A0_0 l0_0.length c0_0, .int .i64 a0_1, .int .i64 a0_2, .int .i64 a0_3] 47 (0, 0)) zk hb); have n2_ := zM (zQ zb hb); clear HO208; clear BK205; clear HB; have HO208 := n0_; have BK205 := n1_; have HB := n2_; clear n0_ n1_ n2_; (try clear hb)))
    go_meet
    case rel => exact ⟨_, (false), zs, H', ⟨by first | omega | exact Nat.le_refl _⟩, ⟨by (with_reducible repeat (first | apply zI | apply zJ | apply zK)); exact HO208.out⟩, ⟨zk⟩, ⟨zb⟩⟩
  case rest =>
   clear HC3
   try clear c2
   try clear c2b0
   try clear c2b1
   try clear p2
   try clear c4
   try clear c8
   try clear hcz10_0
   try clear hcz10_1
   try clear hcz10_2
   try clear hcz10_3
   try clear hcz12_0
   try clear hcz12_1
   try clear hcz12_2
   try clear hcz12_3
   try clear hcz14_0
   try clear hcz14_1
   try clear hcz14_2
   try clear hcz14_3
   try clear hfz10_0
   try clear hfz10_1
   try clear hfz10_2
   try clear hfz10_3
   try clear hfz12_0
   try clear hfz12_1
   try clear hfz12_2
   try clear hfz12_3
   try clear hfz14_0
   try clear hfz14_1
   try clear hfz14_2
   try clear hfz14_3
   obtain ⟨kq, x13_2, rfl, HA, HJ2, HO_3, BK205, HB⟩ := hcut
   cases kq with
   | zero => exact absurd HA.out (by simp [spec_MayReadFirst.j0])
   | succ kj2 =>
    have H := HA.out
    clear HA
    simp only [spec_MayReadFirst.j0] at H
    by_cases c16 : x13_2 = true
    ·subst c16
     have H1 : (if 8 ≤ 281474976710656 then ((spec_l07Pass.f kj2 l0_0 0 (l0_0.length : Int) (List.replicate 8 false) y206).bind fun bt214 => ((spec_l07Note.f kj2 bt214.2 bt214.1 a0_1 a0_2 a0_3).bind fun t216 => ((spec_l07List.f kj2 t216).bind fun t217 => (some t217)))) else (none)) = some r := by rw [if_pos rfl] at H; exact H
     clear H
     have H := H1
     clear H1
     by_cases c17 : 8 ≤ 281474976710656
     ·rw [if_pos c17] at H
      have c17b0 := eq_true c17
      have c17b1 : decide (8 ≤ 281474976710656) = true := decide_eq_true c17
      clear c17
      obtain ⟨y211, hyq⟩ : ∃ y_ : List Bool, y_ = (List.replicate 8 false) := ⟨_, rfl⟩
      replace H : ((spec_l07Pass.f kj2 l0_0 0 (l0_0.length : Int) y211 y206).bind fun bt214 => ((spec_l07Note.f kj2 bt214.2 bt214.1 a0_1 a0_2 a0_3).bind fun t216 => ((spec_l07List.f kj2 t216).bind fun t217 => (some t217)))) = some r := zh
      have Ny211 := zM hyq
      clear hyq
      replace H := Option.bind_eq_some_iff.mp H
      obtain ⟨⟨t214, t215⟩, A180, H⟩ := H
      replace H : ((spec_l07Note.f kj2 t215 t214 a0_1 a0_2 a0_3).bind fun t216 => ((spec_l07List.f kj2 t216).bind fun t217 => (some t217))) = some r := H
      have A18 := zM A180
      clear A180
      replace H := Option.bind_eq_some_iff.mp H
      obtain ⟨t216, A190, H⟩ := H
      replace H : ((spec_l07List.f kj2 t216).bind fun t217 => (some t217)) = some r := H
      have A19 := zM A190
      clear A190
      replace H := Option.bind_eq_some_iff.mp H
      obtain ⟨t217, A200, H⟩ := H
      replace H : (some t217) = some r := H
      have A20 := zM A200
      clear A200
      obtain rfl := Option.some.inj H
      go_wp2_with (first | ((with_reducible refine gate_dst (N := 14) rfl ?_); refine Kd.R_make Kd.bool _ 4 rfl (N := 14) rfl 67 _ _ rfl 8 rfl rfl Try.underlying67 (.bool false) 1 info4 rfl (by decide) (by omega) false (ok := fun _ => True) (okp := fun _ => True) rfl (fun _ hk => hk) trivial (by omega) (by omega) (Below.refl _ _) (Nat.le_refl _) ?_; intro v212 w21 ho22 hb hg_ hnew_; clear hg_ hnew_; (first | rw [← Ny211.out] at ho22 | (simp only [Int.reduceToNat] at ho22; rw [← Ny211.out] at ho22)); have n0_ := zM (Kd.R_elder' (by (with_reducible repeat (first | apply zI | apply zJ | apply zK)); exact HO_3.out) (Kd.R_base ho22) hb); have n1_ := zM (zf (Kd.R_new' ho22 (Kd.R_lt (by (with_reducible repeat (first | apply zI | apply zJ | apply zK)); exact HO_3.out))) (zR zb)); have n2_ := zM (z7 (g := gb205) (o := .cells #[.slice A0_0 l0_0.length c0_0, .int .i64 a0_1, .int .i64 a0_2, .int .i64 a0_3] 47 (0, 0)) zk hb); have n3_ := zM (zQ zb hb); clear HO_3; clear BK205; clear HB; have HO_3 := n0_; have HO213 := n1_; have BK205 := n2_; have HB := n3_; clear n0_ n1_ n2_ n3_; clear hb ho22; have hcz23_0 := (z5 BK205.out 0).trans rfl; have hcz23_1 := (z5 BK205.out 1).trans rfl; have hcz23_2 := (z5 BK205.out 2).trans rfl; have hcz23_3 := (z5 BK205.out 3).trans rfl; have hfz23_0 := z6 BK205.out 0; have hfz23_1 := z6 BK205.out 1; have hfz23_2 := z6 BK205.out 2; have hfz23_3 := z6 BK205.out 3; obtain ⟨Ao24, co24, eo24⟩ := Kd.R_slice HO213.out; subst eo24; obtain ⟨Ao25, co25, eo25⟩ := Kd.R_slice HO_3.out; subst eo25) | ((with_reducible refine gate_callee (f := 60) rfl ?_); refine goesL_ (some 22) rfl rfl Try.func60 (by kernel_rfl) rfl #[.slice A0_0 l0_0.length c0_0, .int .i64 0, .int .i64 (l0_0.length : Int), .slice Ao24 y211.length co24, .slice Ao25 y206.length co25] rfl zg ?_; (with_reducible refine (spec_l07Pass.calls kj2 _ _ l0_0 0 (l0_0.length : Int) (fun k_ => some k_ = (.slice Ao24 y211.length co24 : Value).ownBlock) (.slice Ao24 y211.length co24) y211 (fun k_ => some k_ = (.slice Ao25 y206.length co25 : Value).ownBlock) (.slice Ao25 y206.length co25) y206 t214 t215 w _ ?side1 ?side2 ?side3 ?side4 ?side5 ?side6 ?side7 A18.out).mono ?_); (case side1 => repeat (first | (with_reducible first | exact HB.out | apply z2 | apply z3 | apply z4 | refine zS ?_ GE205.out) | exact HB.out)); (case side2 => exact Kd.C_kept_came k39_heap HR0_0.out zb (fun k_ hs_ => Or.elim hs_ (fun e_ => (fun e_ => Kd.R_base HO213.out k_ e_.symm) e_) (fun e_ => (fun e_ => Kd.R_base HO_3.out k_ e_.symm) e_))); (case side3 => exact HC0_0.out); (case side4 => exact Kd.R_tight rfl HO213.out); (case side5 => exact fun k_ e_ => (HO213.out.1 k_ e_.symm).2); (case side6 => exact Kd.R_tight rfl HO_3.out); (case side7 => exact fun k_ e_ => (HO_3.out.1 k_ e_.symm).2); rintro e w26 ⟨rfl, hy0, hy1, hb, hkp⟩; refine ⟨_, rfl, ?_⟩; have n0_ := zM (Kd.R_reok rfl hy1 (fun k_ e_ => HO_3.out.1 k_ e_)); have n1_ := zM (blk_kept zk hkp (fun hs_ => Or.elim hs_ (fun e_ => (fun e_ => (Kd.R_ne HO213.out BK205.out (by decide)) e_) e_) (fun e_ => (fun e_ => (Kd.R_ne HO_3.out BK205.out (by decide)) e_) e_))); have n2_ := zM (Kd.R_reok rfl hy0 (fun k_ e_ => HO213.out.1 k_ e_)); have n3_ := zM (hb); clear HO_3; clear BK205; clear HO213; clear HB; have HO_3 := n0_; have BK205 := n1_; have HO213 := n2_; have HB := n3_; clear n0_ n1_ n2_ n3_; (try clear hb); (try clear hkp); (try clear hy0); (try clear hy1); have hcz27_0 := (z5 BK205.out 0).trans rfl; have hcz27_1 := (z5 BK205.out 1).trans rfl; have hcz27_2 := (z5 BK205.out 2).trans rfl; have hcz27_3 := (z5 BK205.out 3).trans rfl; have hfz27_0 := z6 BK205.out 0; have hfz27_1 := z6 BK205.out 1; have hfz27_2 := z6 BK205.out 2; have hfz27_3 := z6 BK205.out 3) | ((with_reducible refine gate_callee (f := 61) rfl ?_); refine goesL_ (some 27) rfl rfl Try.func61 (by kernel_rfl) rfl #[.slice Ao25 y206.length co25, .slice Ao24 t214.length co24, .agg #[.int .i64 a0_1, .int .i64 a0_2, .int .i64 a0_3]] rfl (by (try simp only [List.map_toArray, List.map_cons, List.map_nil]); first | done | (rw [show t214.length = y211.length from (z9 HO213.out).1.symm] <;> rfl) | rfl | (simp only [List.length_drop, List.length_take]; rfl)) ?_; (with_reducible refine (spec_l07Note.calls kj2 (fun k_ => some k_ = (.slice Ao25 y206.length co25 : Value).ownBlock) (.slice Ao25 y206.length co25) t215 _ _ t214 a0_1 a0_2 a0_3 t216 w _ ?side1 ?side2 ?side3 ?side4 A19.out).mono ?_); (case side1 => repeat (first | (with_reducible first | exact HB.out | apply z2 | apply z3 | apply z4 | refine zS ?_ GE205.out) | exact HB.out)); (case side2 => exact Kd.R_tight rfl HO_3.out); (case side3 => rw [show t214.length = y211.length from (z9 HO213.out).1.symm]; exact Kd.C_kept_own (HO213.out) (fun k_ hk_ hs_ => (hk_.2) hs_)); (case side4 => rw [show t214.length = y211.length from (z9 HO213.out).1.symm]; exact (z9 HO213.out).2.1); rintro e w28 ⟨rfl, hy0, hb, hkp⟩; refine ⟨_, rfl, ?_⟩; have n0_ := zM (Kd.R_reok rfl hy0 (fun k_ e_ => HO_3.out.1 k_ e_)); have n1_ := zM (blk_kept zk hkp (fun hs_ => (fun e_ => (Kd.R_ne HO_3.out BK205.out (by decide)) e_) hs_)); have n2_ := zM (z1 (ok' := fun k_ => some k_ ≠ (.slice Ao25 y206.length co25 : Value).ownBlock) (Kd.R_keptB (HO213.out) hkp (fun k_ hk_ hs_ => (hk_.2) hs_)) (fun k_ hk_ => hk_.1.2)); have n3_ := zM (hb); clear HO_3; clear BK205; clear HO213; clear HB; have HO_3 := n0_; have BK205 := n1_; have HO213 := n2_; have HB := n3_; clear n0_ n1_ n2_ n3_; (try clear hb); (try clear hkp); (try clear hy0)) | ((with_reducible refine gate_callee (f := 47) rfl ?_); refine goesL_ (some 29) rfl rfl Try.func47 (by kernel_rfl) rfl #[.slice Ao25 t216.length co25] rfl (by (try simp only [List.map_toArray, List.map_cons, List.map_nil]); first | done | (rw [show t216.length = y206.length from (z9 HO_3.out).1.symm] <;> rfl) | rfl | (simp only [List.length_drop, List.length_take]; rfl)) ?_; (with_reducible refine (spec_l07List.calls kj2 _ _ t216 t217 _ ?side1 ?side2 A20.out).mono ?_); (case side1 => repeat (first | exact (z9 HO_3.out).2.2 | (with_reducible refine zF ?_ _) | (with_reducible refine zG ?_ _) | (with_reducible refine zH ?_))); (case side2 => rw [show t216.length = y206.length from (z9 HO_3.out).1.symm]; exact (z9 HO_3.out).2.1); rintro e w29 ⟨v218, rfl, ho0, hb⟩; refine ⟨_, rfl, ?_⟩; have n0_ := zM (ze (by (with_reducible repeat (first | apply zI | apply zJ | apply zK)); exact HO_3.out) hb); have n1_ := zM (ze (by (with_reducible repeat (first | apply zI | apply zJ | apply zK)); exact HO213.out) hb); have n2_ := zM (zf ho0 (zR zb)); have n3_ := zM (z7 (g := gb205) (o := .cells #[.slice A0_0 l0_0.length c0_0, .int .i64 a0_1, .int .i64 a0_2, .int .i64 a0_3] 47 (0, 0)) zk hb); have n4_ := zM (zQ zb hb); clear HO_3; clear HO213; clear BK205; clear HB; have HO_3 := n0_; have HO213 := n1_; have HO219 := n2_; have BK205 := n3_; have HB := n4_; clear n0_ n1_ n2_ n3_ n4_; (try clear hb); (try clear hk); (try clear ho0)))
      go_ret
      exact ⟨_, by first | rfl | (simp [errW_none, errW_some] <;> rfl) | (simp [*, errW_none, errW_some] <;> rfl), by (with_reducible repeat (first | apply zI | apply zJ | apply zK)); exact HO219.out, zb⟩
     ·rw [if_neg c17] at H
      exact absurd H (by simp)
    ·replace c16 := Bool.eq_false_iff.mpr c16
     subst c16
     have H1 : ((spec_l07List.f kj2 y206).bind fun t220 => (some t220)) = some r := by rw [if_neg (show ¬ (false = true) by decide)] at H; exact H
     clear H
     have H := H1
     clear H1
     replace H := Option.bind_eq_some_iff.mp H
     obtain ⟨t220, A300, H⟩ := H
     replace H : (some t220) = some r := H
     have A30 := zM A300
     clear A300
     obtain rfl := Option.some.inj H
     obtain ⟨Ao31, co31, eo31⟩ := Kd.R_slice HO_3.out
     subst eo31
     go_wp2_with (first | ((with_reducible refine gate_callee (f := 47) rfl ?_); refine goesL_ (some 29) rfl rfl Try.func47 (by kernel_rfl) rfl #[.slice Ao31 y206.length co31] rfl zg ?_; (with_reducible refine (spec_l07List.calls kj2 _ _ y206 t220 _ ?side1 ?side2 A30.out).mono ?_); (case side1 => repeat (first | exact (z9 HO_3.out).2.2 | (with_reducible refine zF ?_ _) | (with_reducible refine zG ?_ _) | (with_reducible refine zH ?_))); (case side2 => exact (z9 HO_3.out).2.1); rintro e w32 ⟨v221, rfl, ho0, hb⟩; refine ⟨_, rfl, ?_⟩; have n0_ := zM (ze (by (with_reducible repeat (first | apply zI | apply zJ | apply zK)); exact HO_3.out) hb); have n1_ := zM (zf ho0 (zR zb)); have n2_ := zM (z7 (g := gb205) (o := .cells #[.slice A0_0 l0_0.length c0_0, .int .i64 a0_1, .int .i64 a0_2, .int .i64 a0_3] 47 (0, 0)) zk hb); have n3_ := zM (zQ zb hb); clear HO_3; clear BK205; clear HB; have HO_3 := n0_; have HO222 := n1_; have BK205 := n2_; have HB := n3_; clear n0_ n1_ n2_ n3_; (try clear hb); (try clear ho0)))
     go_ret
     exact ⟨_, by first | rfl | (simp [errW_none, errW_some] <;> rfl) | (simp [*, errW_none, errW_some] <;> rfl), by (with_reducible repeat (first | apply zI | apply zJ | apply zK)); exact HO222.out, zb⟩
 ·rw [if_neg c2] at H
  exact absurd H (by simp)

/-! ### spec_l08Ok: function 67 -/
def spec_l08Ok.f (k : Nat) (l0_0 : List (S39)) (a0_1 : Int) (a0_2 : Int) (a0_3 : Int) : Option (Bool) := (spec_BlockOk.f k l0_0).bind fun t224 => (if t224 = true then ((spec_ExprOk.f a0_1 a0_2 a0_3).bind fun t225 => (some t225)) else (some false))
theorem spec_l08Ok.mono : ∀ a0 a1 a2 a3 k, LeO (spec_l08Ok.f k a0 a1 a2 a3) (spec_l08Ok.f (k + 1) a0 a1 a2 a3) := by
 intro a0 a1 a2 a3 k
 unfold spec_l08Ok.f
 repeat' first
   | (with_reducible exact spec_BlockOk.mono _ _)
   | (with_reducible exact LeO.refl _)
   | (with_reducible exact LeO.none _)
   | (with_reducible refine LeO.ite ?_ ?_)
   | (with_reducible refine LeO.bind ?_ (fun _ => ?_))
   | exact spec_BlockOk.mono _ _
   | exact LeO.none _
   | refine LeO.ite ?_ ?_
   | refine LeO.bind ?_ (fun _ => ?_)
set_option maxHeartbeats 8000000 in
set_option maxRecDepth 100000 in
theorem spec_l08Ok.calls (k : Nat) (A0_0 : Option Addr) (c0_0 : Nat) (l0_0 : List (S39)) (a0_1 : Int) (a0_2 : Int) (a0_3 : Int) (r : Bool) (w : World) (hr0_0 : Kd.C k39 w A0_0 l0_0.length l0_0) (hc0_0 : l0_0.length ≤ c0_0) (h : spec_l08Ok.f k l0_0 a0_1 a0_2 a0_3 = some r) :
  Calls Try.prog 67 #[.agg #[.slice A0_0 l0_0.length c0_0, .int .i64 a0_1, .int .i64 a0_2, .int .i64 a0_3]] w fun e w' => e = .returned (.bool r) ∧ Below w.heap.size w w' := by
 have hu47 := Try.underlying47
 have hu37 := Try.underlying37
 have HR0_0 := zM hr0_0
 have HC0_0 := zM hc0_0
 clear hr0_0 hc0_0
 have HB := zM (Below.refl w.heap.size w)
 have H : ((spec_BlockOk.f k l0_0).bind fun t224 => (if t224 = true then ((spec_ExprOk.f a0_1 a0_2 a0_3).bind fun t225 => (some t225)) else (some false))) = some r := h
 clear h
 replace H := Option.bind_eq_some_iff.mp H
 obtain ⟨t224, A20, H⟩ := H
 replace H : (if t224 = true then ((spec_ExprOk.f a0_1 a0_2 a0_3).bind fun t225 => (some t225)) else (some false)) = some r := H
 have A2 := zM A20
 clear A20
 by_cases c3 : t224 = true
 ·subst c3
  have H1 : ((spec_ExprOk.f a0_1 a0_2 a0_3).bind fun t225 => (some t225)) = some r := by rw [if_pos rfl] at H; exact H
  clear H
  have H := H1
  clear H1
  replace H := Option.bind_eq_some_iff.mp H
  obtain ⟨t225, A40, H⟩ := H
  replace H : (some t225) = some r := H
  have A4 := zM A40
  clear A40
  obtain rfl := Option.some.inj H
  go_enter Try.func67, Try.ntmps67
  go_wp2_with (first | ((with_reducible refine gate_dst (N := 1) rfl ?_); refine box_event ?hg (N := 1) ?hd (cs := #[.slice A0_0 l0_0.length c0_0, .int .i64 a0_1, .int .i64 a0_2, .int .i64 a0_3]) (t := 47) ?hr ?_; (case hd => rfl); (case hg => rfl); (case hr => first | (go_simp; done) | (go_simp; rfl)); intro gb223 hg w5 hbox hb; have n0_ := zM (zQ zb hb); have n1_ := zM (hbox); have n2_ := zM ((by rw [hg]; exact (zR zb) : w.heap.size ≤ gb223)); have n3_ := zM ((by rw [hg]; exact (zR zb) : w.heap.size ≤ gb223)); clear HB; have HB := n0_; have BK223 := n1_; have GW223 := n2_; have GE223 := n3_; clear n0_ n1_ n2_ n3_; clear hb hbox hg; have hcz6_0 := (z5 BK223.out 0).trans rfl; have hcz6_1 := (z5 BK223.out 1).trans rfl; have hcz6_2 := (z5 BK223.out 2).trans rfl; have hcz6_3 := (z5 BK223.out 3).trans rfl; have hfz6_0 := z6 BK223.out 0; have hfz6_1 := z6 BK223.out 1; have hfz6_2 := z6 BK223.out 2; have hfz6_3 := z6 BK223.out 3) | ((with_reducible refine gate_callee (f := 45) rfl ?_); refine goesL_ (some 5) rfl rfl Try.func45 (by kernel_rfl) rfl #[.slice A0_0 l0_0.length c0_0] rfl zg ?_; (with_reducible refine (spec_BlockOk.calls k _ _ l0_0 true _ ?side1 ?side2 A2.out).mono ?_); (case side1 => repeat (first | exact (zX HR0_0.out HB.out) | (with_reducible refine zF ?_ _) | (with_reducible refine zG ?_ _) | (with_reducible refine zH ?_))); (case side2 => exact HC0_0.out); rintro e w7 ⟨rfl, hb⟩; refine ⟨_, rfl, ?_⟩; have n0_ := zM (z7 (g := gb223) (o := .cells #[.slice A0_0 l0_0.length c0_0, .int .i64 a0_1, .int .i64 a0_2, .int .i64 a0_3] 47 (0, 0)) zk hb); have n1_ := zM (zQ zb hb); clear BK223; clear HB; have BK223 := n0_; have HB := n1_; clear n0_ n1_; (try clear hb); have hcz8_0 := (z5 BK223.out 0).trans rfl; have hcz8_1 := (z5 BK223.out 1).trans rfl; have hcz8_2 := (z5 BK223.out 2).trans rfl; have hcz8_3 := (z5 BK223.out 3).trans rfl; have hfz8_0 := z6 BK223.out 0; have hfz8_1 := z6 BK223.out 1; have hfz8_2 := z6 BK223.out 2; have hfz8_3 := z6 BK223.out 3) | (go_at_call 59; (with_reducible refine (spec_ExprOk.calls a0_1 a0_2 a0_3 t225 _ A4.out).mono ?_); rintro e w9 ⟨rfl, hb⟩; have n0_ := zM (z7 (g := gb223) (o := .cells #[.slice A0_0 l0_0.length c0_0, .int .i64 a0_1, .int .i64 a0_2, .int .i64 a0_3] 47 (0, 0)) zk hb); have n1_ := zM (zQ zb hb); clear BK223; clear HB; have BK223 := n0_; have HB := n1_; clear n0_ n1_; (try clear hb)))
  go_ret
  exact ⟨by first | rfl | (simp [errW_none, errW_some] <;> rfl) | (simp [*, errW_none, errW_some] <;> rfl), zb⟩
 ·replace c3 := Bool.eq_false_iff.mpr c3
  subst c3
  have H1 : (some false) = some r := by rw [if_neg (show ¬ (false = true) by decide)] at H; exact H
  clear H
  have H := H1
  clear H1
  obtain rfl := Option.some.inj H
  go_enter Try.func67, Try.ntmps67
  go_wp2_with (first | ((with_reducible refine gate_dst (N := 1) rfl ?_); refine box_event ?hg (N := 1) ?hd (cs := #[.slice A0_0 l0_0.length c0_0, .int .i64 a0_1, .int .i64 a0_2, .int .i64 a0_3]) (t := 47) ?hr ?_; (case hd => rfl); (case hg => rfl); (case hr => first | (go_simp; done) | (go_simp; rfl)); intro gb223 hg w10 hbox hb; have n0_ := zM (zQ zb hb); have n1_ := zM (hbox); have n2_ := zM ((by rw [hg]; exact (zR zb) : w.heap.size ≤ gb223)); have n3_ := zM ((by rw [hg]; exact (zR zb) : w.heap.size ≤ gb223)); clear HB; have HB := n0_; have BK223 := n1_; have GW223 := n2_; have GE223 := n3_; clear n0_ n1_ n2_ n3_; clear hb hbox hg; have hcz11_0 := (z5 BK223.out 0).trans rfl; have hcz11_1 := (z5 BK223.out 1).trans rfl; have hcz11_2 := (z5 BK223.out 2).trans rfl; have hcz11_3 := (z5 BK223.out 3).trans rfl; have hfz11_0 := z6 BK223.out 0; have hfz11_1 := z6 BK223.out 1; have hfz11_2 := z6 BK223.out 2; have hfz11_3 := z6 BK223.out 3) | ((with_reducible refine gate_callee (f := 45) rfl ?_); refine goesL_ (some 5) rfl rfl Try.func45 (by kernel_rfl) rfl #[.slice A0_0 l0_0.length c0_0] rfl zg ?_; (with_reducible refine (spec_BlockOk.calls k _ _ l0_0 false _ ?side1 ?side2 A2.out).mono ?_); (case side1 => repeat (first | exact (zX HR0_0.out HB.out) | (with_reducible refine zF ?_ _) | (with_reducible refine zG ?_ _) | (with_reducible refine zH ?_))); (case side2 => exact HC0_0.out); rintro e w12 ⟨rfl, hb⟩; refine ⟨_, rfl, ?_⟩; have n0_ := zM (z7 (g := gb223) (o := .cells #[.slice A0_0 l0_0.length c0_0, .int .i64 a0_1, .int .i64 a0_2, .int .i64 a0_3] 47 (0, 0)) zk hb); have n1_ := zM (zQ zb hb); clear BK223; clear HB; have BK223 := n0_; have HB := n1_; clear n0_ n1_; (try clear hb)))
  go_ret
  exact ⟨by first | rfl | (simp [errW_none, errW_some] <;> rfl) | (simp [*, errW_none, errW_some] <;> rfl), zb⟩

end Go.Proofs.Ytlhcofkandeepaa.PFnExactLogRoom
