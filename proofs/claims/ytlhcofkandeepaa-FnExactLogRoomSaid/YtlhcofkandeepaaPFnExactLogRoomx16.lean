/- Walks of the functions that a statement reaches, written by a program (the printing program, mended): no condition. -/
import Derived.Test.YtlhcofkandeepaaPFnExactLogRoomx0
import Derived.Test.YtlhcofkandeepaaPFnExactLogRoomx9
import Derived.Test.YtlhcofkandeepaaPFnExactLogRoomx12
import Derived.Test.YtlhcofkandeepaaPFnExactLogRoomx15
namespace Go.Proofs.Ytlhcofkandeepaa.PFnExactLogRoom
open Go.RowKit Go.Proofs.YtlhcofkandeepaaW.PrintWords Go.Proofs.YtlhcofkandeepaaW.PrintLast Go.Proofs.YtlhcofkandeepaaW.PrintMore
attribute [local go_sem] max2_int min2_int max_two min_two max_three min_three max_four min_four   -- for this text's walks alone
set_option linter.unusedVariables false
set_option linter.unusedSimpArgs false

/-! ### impl_ProgramOk: function 74 (given) -/
def impl_ProgramOk.l0 : Nat → List (S47) → Int → Option (Bool)
 | 0, _, _ => none
 | k + 1, x0, x => if x < (x0.length : Int) then (if 0 ≤ x then ((impl_taskOk.f k ((rd_T47 x0 x).f0) ((rd_T47 x0 x).f1.f0) ((rd_T47 x0 x).f1.f1) ((rd_T47 x0 x).f1.f2)).bind fun t => (if t = true then (impl_ProgramOk.l0 k x0 (x + 1)) else (some false))) else (none)) else (some true)
def impl_ProgramOk.f (k : Nat) (l0_0 : List (S47)) : Option (Bool) := (impl_within.f (l0_0.length : Int) 1 6).bind fun t => (if t = true then (impl_ProgramOk.l0 k l0_0 0) else (some false))
theorem impl_ProgramOk.mono_l : ∀ k, (∀ y0 y1, LeO (impl_ProgramOk.l0 k y0 y1) (impl_ProgramOk.l0 (k + 1) y0 y1))
 | 0 => fun _ _ r h => by simp [impl_ProgramOk.l0] at h
 | k + 1 => by
  have ih0 := impl_ProgramOk.mono_l k
  intro y0 y1
  unfold impl_ProgramOk.l0
  repeat' first
   | (with_reducible exact ih0 _ _)
   | (with_reducible exact LeO.refl _)
   | (with_reducible exact LeO.none _)
   | (with_reducible refine LeO.ite ?_ ?_)
   | (with_reducible refine LeO.bind ?_ (fun _ => ?_))
   | (with_reducible exact impl_taskOk.mono _ _ _ _ _)
   | exact ih0 _ _
   | exact LeO.none _
   | refine LeO.ite ?_ ?_
   | refine LeO.bind ?_ (fun _ => ?_)
theorem impl_ProgramOk.mono : ∀ a0 k, LeO (impl_ProgramOk.f k a0) (impl_ProgramOk.f (k + 1) a0) := by
 intro a0 k
 have ih0 := impl_ProgramOk.mono_l k
 unfold impl_ProgramOk.f
 repeat' first
   | (with_reducible exact ih0 _ _)
   | (with_reducible exact LeO.refl _)
   | (with_reducible exact LeO.none _)
   | (with_reducible refine LeO.ite ?_ ?_)
   | (with_reducible refine LeO.bind ?_ (fun _ => ?_))
   | exact ih0 _ _
   | exact LeO.none _
   | refine LeO.ite ?_ ?_
   | refine LeO.bind ?_ (fun _ => ?_)
set_option maxHeartbeats 8000000 in
theorem impl_ProgramOk.fn (k : Nat) (A0 : Option Addr) (c0 : Nat) (l0 : List (S39)) (a1 a2 a3 : Int) (t : Bool) (w : World) (hr0 : Kd.C k39 w A0 l0.length l0) (hc0 : l0.length ≤ c0) (h : impl_taskOk.f k l0 a1 a2 a3 = some t) :
  Calls Try.prog 96 #[.agg #[.slice A0 l0.length c0, .int .i64 a1, .int .i64 a2, .int .i64 a3]] w fun e w' => e = .returned (.bool (!t)) ∧ Below w.heap.size w w' := by
 have hv := zM h
 have HR := zM hr0
 have HC := zM hc0
 clear h hr0 hc0
 go_enter Try.func96, Try.ntmps96
 have HB0 := zM (Below.refl w.heap.size w)
 go_wp2_with (go_at_call 63; (with_reducible refine (impl_taskOk.calls k A0 c0 l0 a1 a2 a3 t _ ?side1 HC.out hv.out).mono ?_); (case side1 => (repeat (first | exact HR.out | (with_reducible refine zF ?_ _) | (with_reducible refine zG ?_ _) | (with_reducible refine zH ?_)))); rintro e w' ⟨rfl, hb⟩; have HB := zM (zQ (by repeat (first | (with_reducible first | exact HB0.out | apply z2 | apply z3 | apply z4) | exact HB0.out)) hb); clear hb)
 go_ret
 exact ⟨by first | rfl | (simp; done), zb⟩
def impl_ProgramOk.Found (r : Bool) (w : World) (e : Ending) (w' : World) : Prop := (∃ i : Int, e = .returned (.int .i64 i) ∧ decide (0 ≤ i) = !r) ∧ Below w.heap.size w w'
set_option maxHeartbeats 8000000 in
set_option maxRecDepth 100000 in
theorem impl_ProgramOk.idx (k : Nat) (A0 : Option Addr) (c0 : Nat) (l0 : List (S47)) (r : Bool) (w : World) (hr0 : Kd.C k47 w A0 l0.length l0) (hc0 : l0.length ≤ c0) (h : impl_ProgramOk.l0 k l0 0 = some r) :
  Calls Try.prog 107 #[.slice A0 l0.length c0, .func (.func 96) #[] #[]] w (impl_ProgramOk.Found r w) := by
 have HR0 := zM hr0
 have hsz := hr0.2.1
 have H' := zM h
 clear hr0 hc0 h
 have HBk := zM (Below.refl w.heap.size w)
 go_enter Try.func107, Try.ntmps107
 go_wp2
 go_loopg [5, 8] k (fun kq v5 v8 wr => ∃ x : Int, v8 = .int .i64 x ∧ 0 ≤ x ∧ x ≤ (l0.length : Int) ∧ Aside0 (impl_ProgramOk.l0 kq l0 x = some r) ∧ Aside0 (Below w.heap.size w wr))
 case atStart => exact ⟨0, rfl, by omega, by omega, H', HBk⟩
 case round =>
  clear HBk H'
  obtain ⟨x, rfl, h0, h1, HA, HB⟩ := hrel
  cases gk with
  | zero => exact absurd HA.out (by simp [impl_ProgramOk.l0])
  | succ k1 =>
   have H := HA.out
   clear HA
   simp only [impl_ProgramOk.l0] at H
   by_cases hlt : x < (l0.length : Int)
   ·rw [if_pos hlt, if_pos h0] at H
    replace H := Option.bind_eq_some_iff.mp H
    obtain ⟨t, A50, H⟩ := H
    obtain ⟨ad, A1, c1, ea, hx0, hx1, hx2, hx3, hl1, hi1⟩ := at_T47 HR0.out x h0 hlt
    cases ea
    replace hx0 := (HB.out.cell (World.block_lt_of_cell? w _ hx0)).trans hx0
    replace hx1 := (HB.out.cell (World.block_lt_of_cell? w _ hx1)).trans hx1
    replace hx2 := (HB.out.cell (World.block_lt_of_cell? w _ hx2)).trans hx2
    replace hx3 := (HB.out.cell (World.block_lt_of_cell? w _ hx3)).trans hx3
    have HR1 := zM hi1
    have HC1 := zM hl1
    have A5 := zM A50
    clear hi1 hl1 A50
    have hd : decide (x < (l0.length : Int)) = true := decide_eq_true hlt
    cases t with
    | true =>
     have HH := zM (show impl_ProgramOk.l0 k1 l0 (x + 1) = some r from by rw [if_pos rfl] at H; exact H)
     clear H
     go_wp2_with (go_at_call 96; (with_reducible refine (impl_ProgramOk.fn k1 A1 c1 ((rd_T47 l0 x).f0) ((rd_T47 l0 x).f1.f0) ((rd_T47 l0 x).f1.f1) ((rd_T47 l0 x).f1.f2) true _ ?side1 HC1.out A5.out).mono ?_); (case side1 => exact zX HR1.out zb); rintro e w' ⟨rfl, hb⟩; have HB2 := zM (zQ zb hb); clear hb)
     go_roundg k1
     case measure => omega
     case rel => exact ⟨x + 1, rfl, by omega, by omega, HH, ⟨by repeat (first | (with_reducible first | exact HB2.out | apply z2 | apply z3 | apply z4) | exact HB2.out)⟩⟩
    | false =>
     have hr : false = r := by rw [if_neg (by simp)] at H; exact Option.some.inj H
     have HH := zM hr
     clear H hr
     go_wp2_with (go_at_call 96; (with_reducible refine (impl_ProgramOk.fn k1 A1 c1 ((rd_T47 l0 x).f0) ((rd_T47 l0 x).f1.f0) ((rd_T47 l0 x).f1.f1) ((rd_T47 l0 x).f1.f2) false _ ?side1 HC1.out A5.out).mono ?_); (case side1 => exact zX HR1.out zb); rintro e w' ⟨rfl, hb⟩; have HB2 := zM (zQ zb hb); clear hb)
     go_ret
     exact ⟨⟨x, rfl, by rw [← HH.out]; simp; omega⟩, by repeat (first | (with_reducible first | exact HB2.out | apply z2 | apply z3 | apply z4) | exact HB2.out)⟩
   ·rw [if_neg hlt] at H
    have Hn := zM (Option.some.inj H)
    have hd : decide (x < (l0.length : Int)) = false := decide_eq_false hlt
    clear H
    go_wp2
    go_ret
    exact ⟨⟨-1, rfl, by rw [← Hn.out]; rfl⟩, zb⟩
set_option maxHeartbeats 8000000 in
set_option maxRecDepth 100000 in
theorem impl_ProgramOk.con (k : Nat) (A0 : Option Addr) (c0 : Nat) (l0 : List (S47)) (r : Bool) (w : World) (hr0 : Kd.C k47 w A0 l0.length l0) (hc0 : l0.length ≤ c0) (h : impl_ProgramOk.l0 k l0 0 = some r) :
  Calls Try.prog 95 #[.slice A0 l0.length c0, .func (.func 96) #[] #[]] w fun e w' => e = .returned (.bool (!r)) ∧ Below w.heap.size w w' := by
 have hi := zM (impl_ProgramOk.idx k A0 c0 l0 r w hr0 hc0 h)
 clear h hr0 hc0
 go_enter Try.func95, Try.ntmps95
 go_wp2_with (go_at_call 107; refine hi.out.mono ?_; rintro e w' ⟨⟨i, rfl, hq⟩, hb⟩; have HQ := zM hq; have HB := zM hb; clear hq hb)
 go_ret
 exact ⟨by rw [← HQ.out]; rfl, HB.out⟩
set_option maxHeartbeats 8000000 in
set_option maxRecDepth 100000 in
theorem impl_ProgramOk.calls (k : Nat) (A0_0 : Option Addr) (c0_0 : Nat) (l0_0 : List (S47)) (r : Bool) (w : World) (hr0_0 : Kd.C k47 w A0_0 l0_0.length l0_0) (hc0_0 : l0_0.length ≤ c0_0) (h : impl_ProgramOk.f k l0_0 = some r) :
  Calls Try.prog 74 #[.agg #[.slice A0_0 l0_0.length c0_0]] w fun e w' => e = .returned (.bool r) ∧ Below w.heap.size w w' := by
 have HR0 := zM hr0_0
 have HC0 := zM hc0_0
 clear hr0_0 hc0_0
 unfold impl_ProgramOk.f at h
 replace h := Option.bind_eq_some_iff.mp h
 obtain ⟨t, A10, H⟩ := h
 have A1 := zM A10
 clear A10
 have HB := zM (Below.refl w.heap.size w)
 cases t with
 | true =>
  have HH := zM (show impl_ProgramOk.l0 k l0_0 0 = some r from by rw [if_pos rfl] at H; exact H)
  clear H
  go_enter Try.func74, Try.ntmps74
  go_wp2_with (first | (go_at_call 94; refine (impl_within.calls (l0_0.length : Int) 1 6 true _ A1.out).mono ?_; rintro e w' ⟨rfl, ⟨nd, rfl⟩⟩) | (go_at_call 95; (with_reducible refine (impl_ProgramOk.con k A0_0 c0_0 l0_0 r _ ?side1 HC0.out HH.out).mono ?_); (case side1 => (repeat (first | exact HR0.out | (with_reducible refine zF ?_ _) | (with_reducible refine zG ?_ _) | (with_reducible refine zH ?_)))); rintro e w' ⟨rfl, hb⟩; have HB2 := zM (zQ zb hb); clear hb))
  go_ret
  exact ⟨by first | rfl | (simp; done), by repeat (first | (with_reducible first | exact HB2.out | apply z2 | apply z3 | apply z4) | exact HB2.out)⟩
 | false =>
  have hr : false = r := by rw [if_neg (by simp)] at H; exact Option.some.inj H
  subst hr
  clear H
  go_enter Try.func74, Try.ntmps74
  go_wp2_with (go_at_call 94; refine (impl_within.calls (l0_0.length : Int) 1 6 false _ A1.out).mono ?_; rintro e w' ⟨rfl, ⟨nd, rfl⟩⟩)
  go_ret
  exact ⟨by first | rfl | (simp; done), zb⟩


/-! ### impl_LogRoom: function 42 -/
def impl_LogRoom.l0 : Nat → Int → List (S47) → Int → Int → Option (Int)
 | 0, _, _, _, _ => none
 | k + 1, x3, x10, x11, x12 => if x12 < x11 then (if 0 ≤ x12 then (if x12 < (x10.length : Int) then ((impl_MustLog.f k ((rd_T47 x10 x12).f0) ((rd_T47 x10 x12).f1.f0) ((rd_T47 x10 x12).f1.f1) ((rd_T47 x10 x12).f1.f2)).bind fun t424 => (impl_LogRoom.l0 k (mx x3 (t424.length : Int)) x10 x11 (wrap64 (x12 + 1)))) else (none)) else (none)) else (some x3)
def impl_LogRoom.f (k : Nat) (l0_0 : List (S47)) : Option (Int) := (impl_ProgramOk.f k l0_0).bind fun t421 => (if t421 = true then (impl_LogRoom.l0 k 0 l0_0 (l0_0.length : Int) 0) else (some (-1)))
theorem impl_LogRoom.mono_l : ∀ k, (∀ y0 y1 y2 y3, LeO (impl_LogRoom.l0 k y0 y1 y2 y3) (impl_LogRoom.l0 (k + 1) y0 y1 y2 y3))
 | 0 => fun _ _ _ _ r h => by simp [impl_LogRoom.l0] at h
 | k + 1 => by
  have ih0 := impl_LogRoom.mono_l k
  ·intro y0 y1 y2 y3
   unfold impl_LogRoom.l0
   repeat' first
   | (with_reducible exact ih0 _ _ _ _)
   | (with_reducible exact impl_MustLog.mono _ _ _ _ _)
   | (with_reducible exact impl_ProgramOk.mono _ _)
   | (with_reducible exact LeO.refl _)
   | (with_reducible exact LeO.none _)
   | (with_reducible refine LeO.ite ?_ ?_)
   | (with_reducible refine LeO.bind ?_ (fun _ => ?_))
   | exact ih0 _ _ _ _
   | exact impl_MustLog.mono _ _ _ _ _
   | exact impl_ProgramOk.mono _ _
   | exact LeO.none _
   | refine LeO.ite ?_ ?_
   | refine LeO.bind ?_ (fun _ => ?_)
theorem impl_LogRoom.mono : ∀ a0 k, LeO (impl_LogRoom.f k a0) (impl_LogRoom.f (k + 1) a0) := by
 intro a0 k
 have ih0 := impl_LogRoom.mono_l k
 unfold impl_LogRoom.f
 repeat' first
   | (with_reducible exact ih0 _ _ _ _)
   | (with_reducible exact impl_MustLog.mono _ _ _ _ _)
   | (with_reducible exact impl_ProgramOk.mono _ _)
   | (with_reducible exact LeO.refl _)
   | (with_reducible exact LeO.none _)
   | (with_reducible refine LeO.ite ?_ ?_)
   | (with_reducible refine LeO.bind ?_ (fun _ => ?_))
   | exact ih0 _ _ _ _
   | exact impl_MustLog.mono _ _ _ _ _
   | exact impl_ProgramOk.mono _ _
   | exact LeO.none _
   | refine LeO.ite ?_ ?_
   | refine LeO.bind ?_ (fun _ => ?_)
set_option maxHeartbeats 8000000 in
set_option maxRecDepth 100000 in
theorem impl_LogRoom.calls (k : Nat) (A0_0 : Option Addr) (c0_0 : Nat) (l0_0 : List (S47)) (r : Int) (w : World) (hr0_0 : Kd.C k47 w A0_0 l0_0.length l0_0) (hc0_0 : l0_0.length ≤ c0_0) (h : impl_LogRoom.f k l0_0 = some r) :
  Calls Try.prog 42 #[.agg #[.slice A0_0 l0_0.length c0_0]] w fun e w' => e = .returned (.int .i64 r) ∧ Below w.heap.size w w' := by
 have hu62 := Try.underlying62
 have hu47 := Try.underlying47
 have HR0_0 := zM hr0_0
 have HC0_0 := zM hc0_0
 clear hr0_0 hc0_0
 have HB := zM (Below.refl w.heap.size w)
 have H : ((impl_ProgramOk.f k l0_0).bind fun t421 => (if t421 = true then (impl_LogRoom.l0 k 0 l0_0 (l0_0.length : Int) 0) else (some (-1)))) = some r := h
 clear h
 replace H := Option.bind_eq_some_iff.mp H
 obtain ⟨t421, A20, H⟩ := H
 replace H : (if t421 = true then (impl_LogRoom.l0 k 0 l0_0 (l0_0.length : Int) 0) else (some (-1))) = some r := H
 have A2 := zM A20
 clear A20
 by_cases c3 : t421 = true
 ·subst c3
  have H1 : (impl_LogRoom.l0 k 0 l0_0 (l0_0.length : Int) 0) = some r := by rw [if_pos rfl] at H; exact H
  clear H
  have H := H1
  clear H1
  have H' := zM H
  clear H
  go_enter Try.func42, Try.ntmps42
  go_wp2_with (first | ((with_reducible refine gate_dst (N := 1) rfl ?_); refine box_event ?hg (N := 1) ?hd (cs := #[.slice A0_0 l0_0.length c0_0]) (t := 62) ?hr ?_; (case hd => rfl); (case hg => rfl); (case hr => first | (go_simp; done) | (go_simp; rfl)); intro gb420 hg w4 hbox hb; have n0_ := zM (zQ zb hb); have n1_ := zM (hbox); have n2_ := zM ((by rw [hg]; exact (zR zb) : w.heap.size ≤ gb420)); have n3_ := zM ((by rw [hg]; exact (zR zb) : w.heap.size ≤ gb420)); clear HB; have HB := n0_; have BK420 := n1_; have GW420 := n2_; have GE420 := n3_; clear n0_ n1_ n2_ n3_; clear hb hbox hg; have hcz5_0 := (z5 BK420.out 0).trans rfl; have hfz5_0 := z6 BK420.out 0) | ((with_reducible refine gate_callee (f := 74) rfl ?_); refine goesL_ (some 7) rfl rfl Try.func74 (by kernel_rfl) rfl #[.agg #[.slice A0_0 l0_0.length c0_0]] rfl zg ?_; (with_reducible refine (impl_ProgramOk.calls k _ _ l0_0 true _ ?side1 ?side2 A2.out).mono ?_); (case side1 => repeat (first | exact (zX HR0_0.out HB.out) | (with_reducible refine zF ?_ _) | (with_reducible refine zG ?_ _) | (with_reducible refine zH ?_))); (case side2 => exact HC0_0.out); rintro e w6 ⟨rfl, hb⟩; refine ⟨_, rfl, ?_⟩; have n0_ := zM (z7 (g := gb420) (o := .cells #[.slice A0_0 l0_0.length c0_0] 62 (0, 0)) zk hb); have n1_ := zM (zQ zb hb); clear BK420; clear HB; have BK420 := n0_; have HB := n1_; clear n0_ n1_; (try clear hb); have hcz7_0 := (z5 BK420.out 0).trans rfl; have hfz7_0 := z6 BK420.out 0))
  go_loopg [3, 12] k (fun kq v3 v12 w' => ∃ (x3_1 : Int) (x12_1 : Int), v3 = .int .i64 x3_1 ∧ v12 = .int .i64 x12_1 ∧ Aside0 (impl_LogRoom.l0 kq x3_1 l0_0 (l0_0.length : Int) x12_1 = some r) ∧ Aside0 (kq ≤ k) ∧ Aside0 (w'.heap[gb420]? = some (.cells #[(.slice A0_0 l0_0.length c0_0)] 62 (0, 0))) ∧ Aside0 (Below w.heap.size w w'))
  case atStart => exact ⟨(0), (0), zs, zs, H', ⟨Nat.le_refl _⟩, ⟨zk⟩, ⟨zb⟩⟩
  case round =>
   clear H'
   try clear p2
   try clear c3
   try clear c4
   try clear c7
   try clear hcz5_0
   try clear hcz7_0
   try clear hfz5_0
   try clear hfz7_0
   obtain ⟨x3_1, x12_1, rfl, rfl, HA, HK1, BK420, HB⟩ := hrel
   cases gk with
   | zero => exact absurd HA.out (by simp [impl_LogRoom.l0])
   | succ k1 =>
    have H := HA.out
    clear HA
    simp only [impl_LogRoom.l0] at H
    by_cases c8 : x12_1 < (l0_0.length : Int)
    ·rw [if_pos c8] at H
     have c8b0 : decide (x12_1 < (l0_0.length : Int)) = true := decide_eq_true c8
     clear c8
     by_cases c9 : 0 ≤ x12_1
     ·rw [if_pos c9] at H
      have c9b0 : decide (0 ≤ x12_1) = true := decide_eq_true c9
      clear c9
      by_cases c10 : x12_1 < (l0_0.length : Int)
      ·rw [if_pos c10] at H
       have c10b0 : decide (x12_1 < (l0_0.length : Int)) = true := decide_eq_true c10
       clear c10
       replace H := Option.bind_eq_some_iff.mp H
       obtain ⟨t424, A110, H⟩ := H
       replace H : (impl_LogRoom.l0 k1 (mx x3_1 (t424.length : Int)) l0_0 (l0_0.length : Int) (wrap64 (x12_1 + 1))) = some r := H
       have A11 := zM A110
       clear A110
       obtain ⟨ji12, hji12⟩ : ∃ j_ : Int, (mx x3_1 (t424.length : Int)) = j_ := ⟨_, rfl⟩
       replace H : (impl_LogRoom.l0 k1 ji12 l0_0 (l0_0.length : Int) (wrap64 (x12_1 + 1))) = some r := by first | (rw [hji12] at H; exact H) | (simp only [hji12] at H ⊢; exact H)
       (try rw [hji12] at A11)
       have hji12_ : (if x3_1 < (t424.length : Int) then (t424.length : Int) else x3_1) = ji12 := hji12
       have H' := zM H
       clear H
       have p422 : 0 ≤ (x12_1 : Int) := zd
       have q422 : x12_1 < (l0_0.length : Int) := zd
       obtain ⟨ad422, A422_0, c422_0, e422, hx422_0, hx422_1, hx422_2, hx422_3, hl422_0, hi422_0⟩ := at_T47 HR0_0.out x12_1 p422 q422
       cases e422
       replace hx422_0 := (HB.out.cell (World.block_lt_of_cell? w _ hx422_0)).trans hx422_0
       replace hx422_1 := (HB.out.cell (World.block_lt_of_cell? w _ hx422_1)).trans hx422_1
       replace hx422_2 := (HB.out.cell (World.block_lt_of_cell? w _ hx422_2)).trans hx422_2
       replace hx422_3 := (HB.out.cell (World.block_lt_of_cell? w _ hx422_3)).trans hx422_3
       have HR422_0 := zM hi422_0
       have HC422_0 := zM hl422_0
       clear hi422_0 hl422_0
       replace p422 := eq_true p422
       replace q422 := eq_true q422
       go_wp2_with (first | ((with_reducible refine gate_dst (N := 5) rfl ?_); refine box_event ?hg (N := 5) ?hd (cs := #[.slice none 0 0, .int .i64 0, .int .i64 0, .int .i64 0]) (t := 47) ?hr ?_; (case hd => rfl); (case hg => rfl); (case hr => first | (go_simp; done) | (go_simp; rfl)); intro gb423 hg w13 hbox hb; have n0_ := zM (z7 (g := gb420) (o := .cells #[.slice (some ad422) l0_0.length c0_0] 62 (0, 0)) zk hb); have n1_ := zM (zQ zb hb); have n2_ := zM (hbox); have n3_ := zM ((by rw [hg]; exact (zR zb) : w.heap.size ≤ gb423)); have n4_ := zM ((by rw [hg]; exact (zR zb) : w.heap.size ≤ gb423)); have n5_ := zM ((by rw [hg]; exact Nat.ne_of_lt (blk_lt (g := gb420) (o := .cells #[.slice (some ad422) l0_0.length c0_0] 62 (0, 0)) zk) : gb420 ≠ gb423)); have n6_ := zM ((by rw [hg]; exact Nat.ne_of_gt (blk_lt (g := gb420) (o := .cells #[.slice (some ad422) l0_0.length c0_0] 62 (0, 0)) zk) : gb423 ≠ gb420)); clear BK420; clear HB; have BK420 := n0_; have HB := n1_; have BK423 := n2_; have GW423 := n3_; have GE423 := n4_; have NB420_423 := n5_; have NB423_420 := n6_; clear n0_ n1_ n2_ n3_ n4_ n5_ n6_; clear hb hbox hg; have hnb14 := NB423_420.out; have hnc14 := NB420_423.out; have hcz15_0 := (z5 BK423.out 0).trans rfl; have hcz15_1 := (z5 BK423.out 1).trans rfl; have hcz15_2 := (z5 BK423.out 2).trans rfl; have hcz15_3 := (z5 BK423.out 3).trans rfl; have hfz15_0 := z6 BK423.out 0; have hfz15_1 := z6 BK423.out 1; have hfz15_2 := z6 BK423.out 2; have hfz15_3 := z6 BK423.out 3) | ((with_reducible refine gate_callee (f := 34) rfl ?_); refine goesL_ (some 18) rfl rfl Try.func34 (by kernel_rfl) rfl #[.agg #[.slice A422_0 ((rd_T47 l0_0 x12_1).f0).length c422_0, .int .i64 ((rd_T47 l0_0 x12_1).f1.f0), .int .i64 ((rd_T47 l0_0 x12_1).f1.f1), .int .i64 ((rd_T47 l0_0 x12_1).f1.f2)]] rfl zg ?_; (with_reducible refine (impl_MustLog.calls k1 _ _ ((rd_T47 l0_0 x12_1).f0) ((rd_T47 l0_0 x12_1).f1.f0) ((rd_T47 l0_0 x12_1).f1.f1) ((rd_T47 l0_0 x12_1).f1.f2) t424 _ ?side1 ?side2 A11.out).mono ?_); (case side1 => exact zX HR422_0.out zb); (case side2 => exact HC422_0.out); rintro e w16 ⟨v425, rfl, ho0, hb⟩; refine ⟨_, rfl, ?_⟩; have n0_ := zM (zf ho0 (zR zb)); have n1_ := zM (z7 (g := gb420) (o := .cells #[.slice (some ad422) l0_0.length c0_0] 62 (0, 0)) (by (with_reducible repeat (first | refine zN ?_ _ | refine zO ?_ | refine zP ?_ _)); refine blk_far ?_ NB420_423.out _; (with_reducible repeat (first | refine zN ?_ _ | refine zO ?_ | refine zP ?_ _)); refine blk_far ?_ NB420_423.out _; (with_reducible repeat (first | refine zN ?_ _ | refine zO ?_ | refine zP ?_ _)); refine blk_far ?_ NB420_423.out _; (with_reducible repeat (first | refine zN ?_ _ | refine zO ?_ | refine zP ?_ _)); refine blk_far ?_ NB420_423.out _; (with_reducible repeat (first | refine zN ?_ _ | refine zO ?_ | refine zP ?_ _)); exact BK420.out) hb); have n2_ := zM (z7 (g := gb423) (o := .cells #[.slice A422_0 ((rd_T47 l0_0 x12_1).f0).length c422_0, .int .i64 ((rd_T47 l0_0 x12_1).f1.f0), .int .i64 ((rd_T47 l0_0 x12_1).f1.f1), .int .i64 ((rd_T47 l0_0 x12_1).f1.f2)] 47 (0, 0)) (by (with_reducible repeat (first | refine zN ?_ _ | refine zO ?_ | refine zP ?_ _)); refine blk_put (cs := #[.slice A422_0 ((rd_T47 l0_0 x12_1).f0).length c422_0, .int .i64 ((rd_T47 l0_0 x12_1).f1.f0), .int .i64 ((rd_T47 l0_0 x12_1).f1.f1), .int .i64 0]) ?_ 3 _ rfl; (with_reducible repeat (first | refine zN ?_ _ | refine zO ?_ | refine zP ?_ _)); refine blk_put (cs := #[.slice A422_0 ((rd_T47 l0_0 x12_1).f0).length c422_0, .int .i64 ((rd_T47 l0_0 x12_1).f1.f0), .int .i64 0, .int .i64 0]) ?_ 2 _ rfl; (with_reducible repeat (first | refine zN ?_ _ | refine zO ?_ | refine zP ?_ _)); refine blk_put (cs := #[.slice A422_0 ((rd_T47 l0_0 x12_1).f0).length c422_0, .int .i64 0, .int .i64 0, .int .i64 0]) ?_ 1 _ rfl; (with_reducible repeat (first | refine zN ?_ _ | refine zO ?_ | refine zP ?_ _)); refine blk_put (cs := #[.slice none 0 0, .int .i64 0, .int .i64 0, .int .i64 0]) ?_ 0 _ rfl; (with_reducible repeat (first | refine zN ?_ _ | refine zO ?_ | refine zP ?_ _)); exact BK423.out) hb); have n3_ := zM (zQ zb hb); clear BK420; clear BK423; clear HB; have HO426 := n0_; have BK420 := n1_; have BK423 := n2_; have HB := n3_; clear n0_ n1_ n2_ n3_; (try clear hb); (try clear ho0); obtain ⟨Ao17, co17, eo17⟩ := Kd.R_slice HO426.out; subst eo17))
       go_roundg k1
       case measure => have := HK1.out; omega
       case rel => exact ⟨(ji12), (wrap64 (x12_1 + 1)), (by first | rfl | (simp; done) | (simp only [← hji12] <;> (first | rfl | simp)) | (simp [*]; done)), zs, H', ⟨by have := HK1.out; omega⟩, ⟨zk⟩, ⟨zb⟩⟩
      ·rw [if_neg c10] at H
       exact absurd H (by simp)
     ·rw [if_neg c9] at H
      exact absurd H (by simp)
    ·rw [if_neg c8] at H
     have c8b0 : decide (x12_1 < (l0_0.length : Int)) = false := decide_eq_false c8
     clear c8
     obtain rfl := Option.some.inj H
     go_wp2
     go_ret
     exact ⟨by first | rfl | (simp [errW_none, errW_some] <;> rfl) | (simp [*, errW_none, errW_some] <;> rfl), zb⟩
 ·replace c3 := Bool.eq_false_iff.mpr c3
  subst c3
  have H1 : (some (-1)) = some r := by rw [if_neg (show ¬ (false = true) by decide)] at H; exact H
  clear H
  have H := H1
  clear H1
  obtain rfl := Option.some.inj H
  go_enter Try.func42, Try.ntmps42
  go_wp2_with (first | ((with_reducible refine gate_dst (N := 1) rfl ?_); refine box_event ?hg (N := 1) ?hd (cs := #[.slice A0_0 l0_0.length c0_0]) (t := 62) ?hr ?_; (case hd => rfl); (case hg => rfl); (case hr => first | (go_simp; done) | (go_simp; rfl)); intro gb420 hg w18 hbox hb; have n0_ := zM (zQ zb hb); have n1_ := zM (hbox); have n2_ := zM ((by rw [hg]; exact (zR zb) : w.heap.size ≤ gb420)); have n3_ := zM ((by rw [hg]; exact (zR zb) : w.heap.size ≤ gb420)); clear HB; have HB := n0_; have BK420 := n1_; have GW420 := n2_; have GE420 := n3_; clear n0_ n1_ n2_ n3_; clear hb hbox hg; have hcz19_0 := (z5 BK420.out 0).trans rfl; have hfz19_0 := z6 BK420.out 0) | ((with_reducible refine gate_callee (f := 74) rfl ?_); refine goesL_ (some 7) rfl rfl Try.func74 (by kernel_rfl) rfl #[.agg #[.slice A0_0 l0_0.length c0_0]] rfl zg ?_; (with_reducible refine (impl_ProgramOk.calls k _ _ l0_0 false _ ?side1 ?side2 A2.out).mono ?_); (case side1 => repeat (first | exact (zX HR0_0.out HB.out) | (with_reducible refine zF ?_ _) | (with_reducible refine zG ?_ _) | (with_reducible refine zH ?_))); (case side2 => exact HC0_0.out); rintro e w20 ⟨rfl, hb⟩; refine ⟨_, rfl, ?_⟩; have n0_ := zM (z7 (g := gb420) (o := .cells #[.slice A0_0 l0_0.length c0_0] 62 (0, 0)) zk hb); have n1_ := zM (zQ zb hb); clear BK420; clear HB; have BK420 := n0_; have HB := n1_; clear n0_ n1_; (try clear hb)))
  go_ret
  exact ⟨by first | rfl | (simp [errW_none, errW_some] <;> rfl) | (simp [*, errW_none, errW_some] <;> rfl), zb⟩

/-! ### laws_eqExpr: function 66 -/
def laws_eqExpr.f (a0_0 : Int) (a0_1 : Int) (a0_2 : Int) (a1_0 : Int) (a1_1 : Int) (a1_2 : Int) : Option (Bool) := if a0_0 = a1_0 then (if a0_1 = a1_1 then (if a0_2 = a1_2 then (some true) else (some false)) else (some false)) else (some false)
set_option maxHeartbeats 8000000 in
set_option maxRecDepth 100000 in
theorem laws_eqExpr.calls (a0_0 : Int) (a0_1 : Int) (a0_2 : Int) (a1_0 : Int) (a1_1 : Int) (a1_2 : Int) (r : Bool) (w : World) (h : laws_eqExpr.f a0_0 a0_1 a0_2 a1_0 a1_1 a1_2 = some r) :
  Calls Try.prog 66 #[.agg #[.int .i64 a0_0, .int .i64 a0_1, .int .i64 a0_2], .agg #[.int .i64 a1_0, .int .i64 a1_1, .int .i64 a1_2]] w fun e w' => e = .returned (.bool r) ∧ Below w.heap.size w w' := by
 have hu37 := Try.underlying37
 have HB := zM (Below.refl w.heap.size w)
 have H : (if a0_0 = a1_0 then (if a0_1 = a1_1 then (if a0_2 = a1_2 then (some true) else (some false)) else (some false)) else (some false)) = some r := h
 clear h
 by_cases c3 : a0_0 = a1_0
 ·rw [if_pos c3] at H
  have c3b0 : (a0_0 == a1_0) = true := beq_iff_eq.mpr c3
  have c3b1 : (a0_0 != a1_0) = false := bne_eq_false_iff_eq.mpr c3
  clear c3
  by_cases c4 : a0_1 = a1_1
  ·rw [if_pos c4] at H
   have c4b0 : (a0_1 == a1_1) = true := beq_iff_eq.mpr c4
   have c4b1 : (a0_1 != a1_1) = false := bne_eq_false_iff_eq.mpr c4
   clear c4
   by_cases c5 : a0_2 = a1_2
   ·rw [if_pos c5] at H
    have c5b0 : (a0_2 == a1_2) = true := beq_iff_eq.mpr c5
    have c5b1 : (a0_2 != a1_2) = false := bne_eq_false_iff_eq.mpr c5
    clear c5
    obtain rfl := Option.some.inj H
    go_enter Try.func66, Try.ntmps66
    go_wp2_with (first | ((with_reducible refine gate_dst (N := 2) rfl ?_); refine box_event ?hg (N := 2) ?hd (cs := #[.int .i64 a0_0, .int .i64 a0_1, .int .i64 a0_2]) (t := 37) ?hr ?_; (case hd => rfl); (case hg => rfl); (case hr => first | (go_simp; done) | (go_simp; rfl)); intro gb427 hg w6 hbox hb; have n0_ := zM (zQ zb hb); have n1_ := zM (hbox); have n2_ := zM ((by rw [hg]; exact (zR zb) : w.heap.size ≤ gb427)); have n3_ := zM ((by rw [hg]; exact (zR zb) : w.heap.size ≤ gb427)); clear HB; have HB := n0_; have BK427 := n1_; have GW427 := n2_; have GE427 := n3_; clear n0_ n1_ n2_ n3_; clear hb hbox hg) | ((with_reducible refine gate_dst (N := 3) rfl ?_); refine box_event ?hg (N := 3) ?hd (cs := #[.int .i64 a1_0, .int .i64 a1_1, .int .i64 a1_2]) (t := 37) ?hr ?_; (case hd => rfl); (case hg => rfl); (case hr => first | (go_simp; done) | (go_simp; rfl)); intro gb428 hg w7 hbox hb; have n0_ := zM (z7 (g := gb427) (o := .cells #[.int .i64 a0_0, .int .i64 a0_1, .int .i64 a0_2] 37 (0, 0)) zk hb); have n1_ := zM (zQ zb hb); have n2_ := zM (hbox); have n3_ := zM ((by rw [hg]; exact (zR zb) : w.heap.size ≤ gb428)); have n4_ := zM ((by rw [hg]; exact (zR zb) : w.heap.size ≤ gb428)); have n5_ := zM ((by rw [hg]; exact Nat.ne_of_lt (blk_lt (g := gb427) (o := .cells #[.int .i64 a0_0, .int .i64 a0_1, .int .i64 a0_2] 37 (0, 0)) zk) : gb427 ≠ gb428)); have n6_ := zM ((by rw [hg]; exact Nat.ne_of_gt (blk_lt (g := gb427) (o := .cells #[.int .i64 a0_0, .int .i64 a0_1, .int .i64 a0_2] 37 (0, 0)) zk) : gb428 ≠ gb427)); clear BK427; clear HB; have BK427 := n0_; have HB := n1_; have BK428 := n2_; have GW428 := n3_; have GE428 := n4_; have NB427_428 := n5_; have NB428_427 := n6_; clear n0_ n1_ n2_ n3_ n4_ n5_ n6_; clear hb hbox hg; have hnb8 := NB427_428.out; have hnc8 := NB428_427.out; have hcz9_0 := (z5 BK427.out 0).trans rfl; have hcz9_1 := (z5 BK427.out 1).trans rfl; have hcz9_2 := (z5 BK427.out 2).trans rfl; have hfz9_0 := z6 BK427.out 0; have hfz9_1 := z6 BK427.out 1; have hfz9_2 := z6 BK427.out 2; have hcz10_0 := (z5 BK428.out 0).trans rfl; have hcz10_1 := (z5 BK428.out 1).trans rfl; have hcz10_2 := (z5 BK428.out 2).trans rfl; have hfz10_0 := z6 BK428.out 0; have hfz10_1 := z6 BK428.out 1; have hfz10_2 := z6 BK428.out 2))
    go_ret
    exact ⟨by first | rfl | (simp [errW_none, errW_some] <;> rfl) | (simp [*, errW_none, errW_some] <;> rfl), zb⟩
   ·rw [if_neg c5] at H
    have c5b0 : (a0_2 == a1_2) = false := beq_eq_false_iff_ne.mpr c5
    have c5b1 : (a0_2 != a1_2) = true := bne_iff_ne.mpr c5
    obtain rfl := Option.some.inj H
    go_enter Try.func66, Try.ntmps66
    go_wp2_with (first | ((with_reducible refine gate_dst (N := 2) rfl ?_); refine box_event ?hg (N := 2) ?hd (cs := #[.int .i64 a0_0, .int .i64 a0_1, .int .i64 a0_2]) (t := 37) ?hr ?_; (case hd => rfl); (case hg => rfl); (case hr => first | (go_simp; done) | (go_simp; rfl)); intro gb427 hg w11 hbox hb; have n0_ := zM (zQ zb hb); have n1_ := zM (hbox); have n2_ := zM ((by rw [hg]; exact (zR zb) : w.heap.size ≤ gb427)); have n3_ := zM ((by rw [hg]; exact (zR zb) : w.heap.size ≤ gb427)); clear HB; have HB := n0_; have BK427 := n1_; have GW427 := n2_; have GE427 := n3_; clear n0_ n1_ n2_ n3_; clear hb hbox hg) | ((with_reducible refine gate_dst (N := 3) rfl ?_); refine box_event ?hg (N := 3) ?hd (cs := #[.int .i64 a1_0, .int .i64 a1_1, .int .i64 a1_2]) (t := 37) ?hr ?_; (case hd => rfl); (case hg => rfl); (case hr => first | (go_simp; done) | (go_simp; rfl)); intro gb428 hg w12 hbox hb; have n0_ := zM (z7 (g := gb427) (o := .cells #[.int .i64 a0_0, .int .i64 a0_1, .int .i64 a0_2] 37 (0, 0)) zk hb); have n1_ := zM (zQ zb hb); have n2_ := zM (hbox); have n3_ := zM ((by rw [hg]; exact (zR zb) : w.heap.size ≤ gb428)); have n4_ := zM ((by rw [hg]; exact (zR zb) : w.heap.size ≤ gb428)); have n5_ := zM ((by rw [hg]; exact Nat.ne_of_lt (blk_lt (g := gb427) (o := .cells #[.int .i64 a0_0, .int .i64 a0_1, .int .i64 a0_2] 37 (0, 0)) zk) : gb427 ≠ gb428)); have n6_ := zM ((by rw [hg]; exact Nat.ne_of_gt (blk_lt (g := gb427) (o := .cells #[.int .i64 a0_0, .int .i64 a0_1, .int .i64 a0_2] 37 (0, 0)) zk) : gb428 ≠ gb427)); clear BK427; clear HB; have BK427 := n0_; have HB := n1_; have BK428 := n2_; have GW428 := n3_; have GE428 := n4_; have NB427_428 := n5_; have NB428_427 := n6_; clear n0_ n1_ n2_ n3_ n4_ n5_ n6_; clear hb hbox hg; have hnb13 := NB427_428.out; have hnc13 := NB428_427.out; have hcz14_0 := (z5 BK427.out 0).trans rfl; have hcz14_1 := (z5 BK427.out 1).trans rfl; have hcz14_2 := (z5 BK427.out 2).trans rfl; have hfz14_0 := z6 BK427.out 0; have hfz14_1 := z6 BK427.out 1; have hfz14_2 := z6 BK427.out 2; have hcz15_0 := (z5 BK428.out 0).trans rfl; have hcz15_1 := (z5 BK428.out 1).trans rfl; have hcz15_2 := (z5 BK428.out 2).trans rfl; have hfz15_0 := z6 BK428.out 0; have hfz15_1 := z6 BK428.out 1; have hfz15_2 := z6 BK428.out 2))
    go_ret
    exact ⟨by first | rfl | (simp [errW_none, errW_some] <;> rfl) | (simp [*, errW_none, errW_some] <;> rfl), zb⟩
  ·rw [if_neg c4] at H
   have c4b0 : (a0_1 == a1_1) = false := beq_eq_false_iff_ne.mpr c4
   have c4b1 : (a0_1 != a1_1) = true := bne_iff_ne.mpr c4
   obtain rfl := Option.some.inj H
   go_enter Try.func66, Try.ntmps66
   go_wp2_with (first | ((with_reducible refine gate_dst (N := 2) rfl ?_); refine box_event ?hg (N := 2) ?hd (cs := #[.int .i64 a0_0, .int .i64 a0_1, .int .i64 a0_2]) (t := 37) ?hr ?_; (case hd => rfl); (case hg => rfl); (case hr => first | (go_simp; done) | (go_simp; rfl)); intro gb427 hg w16 hbox hb; have n0_ := zM (zQ zb hb); have n1_ := zM (hbox); have n2_ := zM ((by rw [hg]; exact (zR zb) : w.heap.size ≤ gb427)); have n3_ := zM ((by rw [hg]; exact (zR zb) : w.heap.size ≤ gb427)); clear HB; have HB := n0_; have BK427 := n1_; have GW427 := n2_; have GE427 := n3_; clear n0_ n1_ n2_ n3_; clear hb hbox hg) | ((with_reducible refine gate_dst (N := 3) rfl ?_); refine box_event ?hg (N := 3) ?hd (cs := #[.int .i64 a1_0, .int .i64 a1_1, .int .i64 a1_2]) (t := 37) ?hr ?_; (case hd => rfl); (case hg => rfl); (case hr => first | (go_simp; done) | (go_simp; rfl)); intro gb428 hg w17 hbox hb; have n0_ := zM (z7 (g := gb427) (o := .cells #[.int .i64 a0_0, .int .i64 a0_1, .int .i64 a0_2] 37 (0, 0)) zk hb); have n1_ := zM (zQ zb hb); have n2_ := zM (hbox); have n3_ := zM ((by rw [hg]; exact (zR zb) : w.heap.size ≤ gb428)); have n4_ := zM ((by rw [hg]; exact (zR zb) : w.heap.size ≤ gb428)); have n5_ := zM ((by rw [hg]; exact Nat.ne_of_lt (blk_lt (g := gb427) (o := .cells #[.int .i64 a0_0, .int .i64 a0_1, .int .i64 a0_2] 37 (0, 0)) zk) : gb427 ≠ gb428)); have n6_ := zM ((by rw [hg]; exact Nat.ne_of_gt (blk_lt (g := gb427) (o := .cells #[.int .i64 a0_0, .int .i64 a0_1, .int .i64 a0_2] 37 (0, 0)) zk) : gb428 ≠ gb427)); clear BK427; clear HB; have BK427 := n0_; have HB := n1_; have BK428 := n2_; have GW428 := n3_; have GE428 := n4_; have NB427_428 := n5_; have NB428_427 := n6_; clear n0_ n1_ n2_ n3_ n4_ n5_ n6_; clear hb hbox hg; have hnb18 := NB427_428.out; have hnc18 := NB428_427.out; have hcz19_0 := (z5 BK427.out 0).trans rfl; have hcz19_1 := (z5 BK427.out 1).trans rfl; have hcz19_2 := (z5 BK427.out 2).trans rfl; have hfz19_0 := z6 BK427.out 0; have hfz19_1 := z6 BK427.out 1; have hfz19_2 := z6 BK427.out 2; have hcz20_0 := (z5 BK428.out 0).trans rfl; have hcz20_1 := (z5 BK428.out 1).trans rfl; have hcz20_2 := (z5 BK428.out 2).trans rfl; have hfz20_0 := z6 BK428.out 0; have hfz20_1 := z6 BK428.out 1; have hfz20_2 := z6 BK428.out 2))
   go_ret
   exact ⟨by first | rfl | (simp [errW_none, errW_some] <;> rfl) | (simp [*, errW_none, errW_some] <;> rfl), zb⟩
 ·rw [if_neg c3] at H
  have c3b0 : (a0_0 == a1_0) = false := beq_eq_false_iff_ne.mpr c3
  have c3b1 : (a0_0 != a1_0) = true := bne_iff_ne.mpr c3
  obtain rfl := Option.some.inj H
  go_enter Try.func66, Try.ntmps66
  go_wp2_with (first | ((with_reducible refine gate_dst (N := 2) rfl ?_); refine box_event ?hg (N := 2) ?hd (cs := #[.int .i64 a0_0, .int .i64 a0_1, .int .i64 a0_2]) (t := 37) ?hr ?_; (case hd => rfl); (case hg => rfl); (case hr => first | (go_simp; done) | (go_simp; rfl)); intro gb427 hg w21 hbox hb; have n0_ := zM (zQ zb hb); have n1_ := zM (hbox); have n2_ := zM ((by rw [hg]; exact (zR zb) : w.heap.size ≤ gb427)); have n3_ := zM ((by rw [hg]; exact (zR zb) : w.heap.size ≤ gb427)); clear HB; have HB := n0_; have BK427 := n1_; have GW427 := n2_; have GE427 := n3_; clear n0_ n1_ n2_ n3_; clear hb hbox hg) | ((with_reducible refine gate_dst (N := 3) rfl ?_); refine box_event ?hg (N := 3) ?hd (cs := #[.int .i64 a1_0, .int .i64 a1_1, .int .i64 a1_2]) (t := 37) ?hr ?_; (case hd => rfl); (case hg => rfl); (case hr => first | (go_simp; done) | (go_simp; rfl)); intro gb428 hg w22 hbox hb; have n0_ := zM (z7 (g := gb427) (o := .cells #[.int .i64 a0_0, .int .i64 a0_1, .int .i64 a0_2] 37 (0, 0)) zk hb); have n1_ := zM (zQ zb hb); have n2_ := zM (hbox); have n3_ := zM ((by rw [hg]; exact (zR zb) : w.heap.size ≤ gb428)); have n4_ := zM ((by rw [hg]; exact (zR zb) : w.heap.size ≤ gb428)); have n5_ := zM ((by rw [hg]; exact Nat.ne_of_lt (blk_lt (g := gb427) (o := .cells #[.int .i64 a0_0, .int .i64 a0_1, .int .i64 a0_2] 37 (0, 0)) zk) : gb427 ≠ gb428)); have n6_ := zM ((by rw [hg]; exact Nat.ne_of_gt (blk_lt (g := gb427) (o := .cells #[.int .i64 a0_0, .int .i64 a0_1, .int .i64 a0_2] 37 (0, 0)) zk) : gb428 ≠ gb427)); clear BK427; clear HB; have BK427 := n0_; have HB := n1_; have BK428 := n2_; have GW428 := n3_; have GE428 := n4_; have NB427_428 := n5_; have NB428_427 := n6_; clear n0_ n1_ n2_ n3_ n4_ n5_ n6_; clear hb hbox hg; have hnb23 := NB427_428.out; have hnc23 := NB428_427.out; have hcz24_0 := (z5 BK427.out 0).trans rfl; have hcz24_1 := (z5 BK427.out 1).trans rfl; have hcz24_2 := (z5 BK427.out 2).trans rfl; have hfz24_0 := z6 BK427.out 0; have hfz24_1 := z6 BK427.out 1; have hfz24_2 := z6 BK427.out 2; have hcz25_0 := (z5 BK428.out 0).trans rfl; have hcz25_1 := (z5 BK428.out 1).trans rfl; have hcz25_2 := (z5 BK428.out 2).trans rfl; have hfz25_0 := z6 BK428.out 0; have hfz25_1 := z6 BK428.out 1; have hfz25_2 := z6 BK428.out 2))
  go_ret
  exact ⟨by first | rfl | (simp [errW_none, errW_some] <;> rfl) | (simp [*, errW_none, errW_some] <;> rfl), zb⟩

/-! ### laws_eqStmt: function 52 -/
def laws_eqStmt.f (a0_0 : Int) (a0_1 : Int) (a0_2 : Int) (a0_3 : Int) (a0_4 : Int) (a0_5 : Int) (a1_0 : Int) (a1_1 : Int) (a1_2 : Int) (a1_3 : Int) (a1_4 : Int) (a1_5 : Int) : Option (Bool) := if a0_0 = a1_0 then (if a0_1 = a1_1 then (if a0_2 = a1_2 then ((laws_eqExpr.f a0_3 a0_4 a0_5 a1_3 a1_4 a1_5).bind fun t431 => (if t431 = true then (some true) else (some false))) else (some false)) else (some false)) else (some false)
set_option maxHeartbeats 8000000 in
set_option maxRecDepth 100000 in
theorem laws_eqStmt.calls (a0_0 : Int) (a0_1 : Int) (a0_2 : Int) (a0_3 : Int) (a0_4 : Int) (a0_5 : Int) (a1_0 : Int) (a1_1 : Int) (a1_2 : Int) (a1_3 : Int) (a1_4 : Int) (a1_5 : Int) (r : Bool) (w : World) (h : laws_eqStmt.f a0_0 a0_1 a0_2 a0_3 a0_4 a0_5 a1_0 a1_1 a1_2 a1_3 a1_4 a1_5 = some r) :
  Calls Try.prog 52 #[.agg #[.int .i64 a0_0, .int .i64 a0_1, .int .i64 a0_2, .int .i64 a0_3, .int .i64 a0_4, .int .i64 a0_5], .agg #[.int .i64 a1_0, .int .i64 a1_1, .int .i64 a1_2, .int .i64 a1_3, .int .i64 a1_4, .int .i64 a1_5]] w fun e w' => e = .returned (.bool r) ∧ Below w.heap.size w w' := by
 have hu39 := Try.underlying39
 have hu37 := Try.underlying37
 have HB := zM (Below.refl w.heap.size w)
 have H : (if a0_0 = a1_0 then (if a0_1 = a1_1 then (if a0_2 = a1_2 then ((laws_eqExpr.f a0_3 a0_4 a0_5 a1_3 a1_4 a1_5).bind fun t431 => (if t431 = true then (some true) else (some false))) else (some false)) else (some false)) else (some false)) = some r := h
 clear h
 by_cases c3 : a0_0 = a1_0
 ·rw [if_pos c3] at H
  have c3b0 : (a0_0 == a1_0) = true := beq_iff_eq.mpr c3
  have c3b1 : (a0_0 != a1_0) = false := bne_eq_false_iff_eq.mpr c3
  clear c3
  by_cases c4 : a0_1 = a1_1
  ·rw [if_pos c4] at H
   have c4b0 : (a0_1 == a1_1) = true := beq_iff_eq.mpr c4
   have c4b1 : (a0_1 != a1_1) = false := bne_eq_false_iff_eq.mpr c4
   clear c4
   by_cases c5 : a0_2 = a1_2
   ·rw [if_pos c5] at H
    have c5b0 : (a0_2 == a1_2) = true := beq_iff_eq.mpr c5
    have c5b1 : (a0_2 != a1_2) = false := bne_eq_false_iff_eq.mpr c5
    clear c5
    replace H := Option.bind_eq_some_iff.mp H
    obtain ⟨t431, A60, H⟩ := H
    replace H : (if t431 = true then (some true) else (some false)) = some r := H
    have A6 := zM A60
    clear A60
    by_cases c7 : t431 = true
    ·subst c7
     have H1 : (some true) = some r := by rw [if_pos rfl] at H; exact H
     clear H
     have H := H1
     clear H1
     obtain rfl := Option.some.inj H
     go_enter Try.func52, Try.ntmps52
     go_wp2_with (first | ((with_reducible refine gate_dst (N := 2) rfl ?_); refine box_event ?hg (N := 2) ?hd (cs := #[.int .i64 a0_0, .int .i64 a0_1, .int .i64 a0_2, .int .i64 a0_3, .int .i64 a0_4, .int .i64 a0_5]) (t := 39) ?hr ?_; (case hd => rfl); (case hg => rfl); (case hr => first | (go_simp; done) | (go_simp; rfl)); intro gb429 hg w8 hbox hb; have n0_ := zM (zQ zb hb); have n1_ := zM (hbox); have n2_ := zM ((by rw [hg]; exact (zR zb) : w.heap.size ≤ gb429)); have n3_ := zM ((by rw [hg]; exact (zR zb) : w.heap.size ≤ gb429)); clear HB; have HB := n0_; have BK429 := n1_; have GW429 := n2_; have GE429 := n3_; clear n0_ n1_ n2_ n3_; clear hb hbox hg) | ((with_reducible refine gate_dst (N := 3) rfl ?_); refine box_event ?hg (N := 3) ?hd (cs := #[.int .i64 a1_0, .int .i64 a1_1, .int .i64 a1_2, .int .i64 a1_3, .int .i64 a1_4, .int .i64 a1_5]) (t := 39) ?hr ?_; (case hd => rfl); (case hg => rfl); (case hr => first | (go_simp; done) | (go_simp; rfl)); intro gb430 hg w9 hbox hb; have n0_ := zM (z7 (g := gb429) (o := .cells #[.int .i64 a0_0, .int .i64 a0_1, .int .i64 a0_2, .int .i64 a0_3, .int .i64 a0_4, .int .i64 a0_5] 39 (0, 0)) zk hb); have n1_ := zM (zQ zb hb); have n2_ := zM (hbox); have n3_ := zM ((by rw [hg]; exact (zR zb) : w.heap.size ≤ gb430)); have n4_ := zM ((by rw [hg]; exact (zR zb) : w.heap.size ≤ gb430)); have n5_ := zM ((by rw [hg]; exact Nat.ne_of_lt (blk_lt (g := gb429) (o := .cells #[.int .i64 a0_0, .int .i64 a0_1, .int .i64 a0_2, .int .i64 a0_3, .int .i64 a0_4, .int .i64 a0_5] 39 (0, 0)) zk) : gb429 ≠ gb430)); have n6_ := zM ((by rw [hg]; exact Nat.ne_of_gt (blk_lt (g := gb429) (o := .cells #[.int .i64 a0_0, .int .i64 a0_1, .int .i64 a0_2, .int .i64 a0_3, .int .i64 a0_4, .int .i64 a0_5] 39 (0, 0)) zk) : gb430 ≠ gb429)); clear BK429; clear HB; have BK429 := n0_; have HB := n1_; have BK430 := n2_; have GW430 := n3_; have GE430 := n4_; have NB429_430 := n5_; have NB430_429 := n6_; clear n0_ n1_ n2_ n3_ n4_ n5_ n6_; clear hb hbox hg; have hnb10 := NB429_430.out; have hnc10 := NB430_429.out; have hcz11_0 := (z5 BK429.out 0).trans rfl; have hcz11_1 := (z5 BK429.out 1).trans rfl; have hcz11_2 := (z5 BK429.out 2).trans rfl; have hcz11_3 := (z5 BK429.out 3).trans rfl; have hcz11_4 := (z5 BK429.out 4).trans rfl; have hcz11_5 := (z5 BK429.out 5).trans rfl; have hfz11_0 := z6 BK429.out 0; have hfz11_1 := z6 BK429.out 1; have hfz11_2 := z6 BK429.out 2; have hfz11_3 := z6 BK429.out 3; have hfz11_4 := z6 BK429.out 4; have hfz11_5 := z6 BK429.out 5; have hcz12_0 := (z5 BK430.out 0).trans rfl; have hcz12_1 := (z5 BK430.out 1).trans rfl; have hcz12_2 := (z5 BK430.out 2).trans rfl; have hcz12_3 := (z5 BK430.out 3).trans rfl; have hcz12_4 := (z5 BK430.out 4).trans rfl; have hcz12_5 := (z5 BK430.out 5).trans rfl; have hfz12_0 := z6 BK430.out 0; have hfz12_1 := z6 BK430.out 1; have hfz12_2 := z6 BK430.out 2; have hfz12_3 := z6 BK430.out 3; have hfz12_4 := z6 BK430.out 4; have hfz12_5 := z6 BK430.out 5) | ((with_reducible refine gate_callee (f := 66) rfl ?_); refine goesL_ (some 24) rfl rfl Try.func66 (by kernel_rfl) rfl #[.agg #[.int .i64 a0_3, .int .i64 a0_4, .int .i64 a0_5], .agg #[.int .i64 a1_3, .int .i64 a1_4, .int .i64 a1_5]] rfl zg ?_; (with_reducible refine (laws_eqExpr.calls a0_3 a0_4 a0_5 a1_3 a1_4 a1_5 true _ A6.out).mono ?_); rintro e w13 ⟨rfl, hb⟩; refine ⟨_, rfl, ?_⟩; have n0_ := zM (z7 (g := gb429) (o := .cells #[.int .i64 a0_0, .int .i64 a0_1, .int .i64 a0_2, .int .i64 a0_3, .int .i64 a0_4, .int .i64 a0_5] 39 (0, 0)) zk hb); have n1_ := zM (z7 (g := gb430) (o := .cells #[.int .i64 a1_0, .int .i64 a1_1, .int .i64 a1_2, .int .i64 a1_3, .int .i64 a1_4, .int .i64 a1_5] 39 (0, 0)) zk hb); have n2_ := zM (zQ zb hb); clear BK429; clear BK430; clear HB; have BK429 := n0_; have BK430 := n1_; have HB := n2_; clear n0_ n1_ n2_; (try clear hb)))
     go_ret
     exact ⟨by first | rfl | (simp [errW_none, errW_some] <;> rfl) | (simp [*, errW_none, errW_some] <;> rfl), zb⟩
    ·replace c7 := Bool.eq_false_iff.mpr c7
     subst c7
     have H1 : (some false) = some r := by rw [if_neg (show ¬ (false = true) by decide)] at H; exact H
     clear H
     have H := H1
     clear H1
     obtain rfl := Option.some.inj H
     go_enter Try.func52, Try.ntmps52
     go_wp2_with (first | ((with_reducible refine gate_dst (N := 2) rfl ?_); refine box_event ?hg (N := 2) ?hd (cs := #[.int .i64 a0_0, .int .i64 a0_1, .int .i64 a0_2, .int .i64 a0_3, .int .i64 a0_4, .int .i64 a0_5]) (t := 39) ?hr ?_; (case hd => rfl); (case hg => rfl); (case hr => first | (go_simp; done) | (go_simp; rfl)); intro gb429 hg w14 hbox hb; have n0_ := zM (zQ zb hb); have n1_ := zM (hbox); have n2_ := zM ((by rw [hg]; exact (zR zb) : w.heap.size ≤ gb429)); have n3_ := zM ((by rw [hg]; exact (zR zb) : w.heap.size ≤ gb429)); clear HB; have HB := n0_; have BK429 := n1_; have GW429 := n2_; have GE429 := n3_; clear n0_ n1_ n2_ n3_; clear hb hbox hg) | ((with_reducible refine gate_dst (N := 3) rfl ?_); refine box_event ?hg (N := 3) ?hd (cs := #[.int .i64 a1_0, .int .i64 a1_1, .int .i64 a1_2, .int .i64 a1_3, .int .i64 a1_4, .int .i64 a1_5]) (t := 39) ?hr ?_; (case hd => rfl); (case hg => rfl); (case hr => first | (go_simp; done) | (go_simp; rfl)); intro gb430 hg w15 hbox hb; have n0_ := zM (z7 (g := gb429) (o := .cells #[.int .i64 a0_0, .int .i64 a0_1, .int .i64 a0_2, .int .i64 a0_3, .int .i64 a0_4, .int .i64 a0_5] 39 (0, 0)) zk hb); have n1_ := zM (zQ zb hb); have n2_ := zM (hbox); have n3_ := zM ((by rw [hg]; exact (zR zb) : w.heap.size ≤ gb430)); have n4_ := zM ((by rw [hg]; exact (zR zb) : w.heap.size ≤ gb430)); have n5_ := zM ((by rw [hg]; exact Nat.ne_of_lt (blk_lt (g := gb429) (o := .cells #[.int .i64 a0_0, .int .i64 a0_1, .int .i64 a0_2, .int .i64 a0_3, .int .i64 a0_4, .int .i64 a0_5] 39 (0, 0)) zk) : gb429 ≠ gb430)); have n6_ := zM ((by rw [hg]; exact Nat.ne_of_gt (blk_lt (g := gb429) (o := .cells #[.int .i64 a0_0, .int .i64 a0_1, .int .i64 a0_2, .int .i64 a0_3, .int .i64 a0_4, .int .i64 a0_5] 39 (0, 0)) zk) : gb430 ≠ gb429)); clear BK429; clear HB; have BK429 := n0_; have HB := n1_; have BK430 := n2_; have GW430 := n3_; have GE430 := n4_; have NB429_430 := n5_; have NB430_429 := n6_; clear n0_ n1_ n2_ n3_ n4_ n5_ n6_; clear hb hbox hg; have hnb16 := NB429_430.out; have hnc16 := NB430_429.out; have hcz17_0 := (z5 BK429.out 0).trans rfl; have hcz17_1 := (z5 BK429.out 1).trans rfl; have hcz17_2 := (z5 BK429.out 2).trans rfl; have hcz17_3 := (z5 BK429.out 3).trans rfl; have hcz17_4 := (z5 BK429.out 4).trans rfl; have hcz17_5 := (z5 BK429.out 5).trans rfl; have hfz17_0 := z6 BK429.out 0; have hfz17_1 := z6 BK429.out 1; have hfz17_2 := z6 BK429.out 2; have hfz17_3 := z6 BK429.out 3; have hfz17_4 := z6 BK429.out 4; have hfz17_5 := z6 BK429.out 5; have hcz18_0 := (z5 BK430.out 0).trans rfl; have hcz18_1 := (z5 BK430.out 1).trans rfl; have hcz18_2 := (z5 BK430.out 2).trans rfl; have hcz18_3 := (z5 BK430.out 3).trans rfl; have hcz18_4 := (z5 BK430.out 4).trans rfl; have hcz18_5 := (z5 BK430.out 5).trans rfl; have hfz18_0 := z6 BK430.out 0; have hfz18_1 := z6 BK430.out 1; have hfz18_2 := z6 BK430.out 2; have hfz18_3 := z6 BK430.out 3; have hfz18_4 := z6 BK430.out 4; have hfz18_5 := z6 BK430.out 5) | ((with_reducible refine gate_callee (f := 66) rfl ?_); refine goesL_ (some 24) rfl rfl Try.func66 (by kernel_rfl) rfl #[.agg #[.int .i64 a0_3, .int .i64 a0_4, .int .i64 a0_5], .agg #[.int .i64 a1_3, .int .i64 a1_4, .int .i64 a1_5]] rfl zg ?_; (with_reducible refine (laws_eqExpr.calls a0_3 a0_4 a0_5 a1_3 a1_4 a1_5 false _ A6.out).mono ?_); rintro e w19 ⟨rfl, hb⟩; refine ⟨_, rfl, ?_⟩; have n0_ := zM (z7 (g := gb429) (o := .cells #[.int .i64 a0_0, .int .i64 a0_1, .int .i64 a0_2, .int .i64 a0_3, .int .i64 a0_4, .int .i64 a0_5] 39 (0, 0)) zk hb); have n1_ := zM (z7 (g := gb430) (o := .cells #[.int .i64 a1_0, .int .i64 a1_1, .int .i64 a1_2, .int .i64 a1_3, .int .i64 a1_4, .int .i64 a1_5] 39 (0, 0)) zk hb); have n2_ := zM (zQ zb hb); clear BK429; clear BK430; clear HB; have BK429 := n0_; have BK430 := n1_; have HB := n2_; clear n0_ n1_ n2_; (try clear hb)))
     go_ret
     exact ⟨by first | rfl | (simp [errW_none, errW_some] <;> rfl) | (simp [*, errW_none, errW_some] <;> rfl), zb⟩
   ·rw [if_neg c5] at H
    have c5b0 : (a0_2 == a1_2) = false := beq_eq_false_iff_ne.mpr c5
    have c5b1 : (a0_2 != a1_2) = true := bne_iff_ne.mpr c5
    obtain rfl := Option.some.inj H
    go_enter Try.func52, Try.ntmps52
    go_wp2_with (first | ((with_reducible refine gate_dst (N := 2) rfl ?_); refine box_event ?hg (N := 2) ?hd (cs := #[.int .i64 a0_0, .int .i64 a0_1, .int .i64 a0_2, .int .i64 a0_3, .int .i64 a0_4, .int .i64 a0_5]) (t := 39) ?hr ?_; (case hd => rfl); (case hg => rfl); (case hr => first | (go_simp; done) | (go_simp; rfl)); intro gb429 hg w20 hbox hb; have n0_ := zM (zQ zb hb); have n1_ := zM (hbox); have n2_ := zM ((by rw [hg]; exact (zR zb) : w.heap.size ≤ gb429)); have n3_ := zM ((by rw [hg]; exact (zR zb) : w.heap.size ≤ gb429)); clear HB; have HB := n0_; have BK429 := n1_; have GW429 := n2_; have GE429 := n3_; clear n0_ n1_ n2_ n3_; clear hb hbox hg) | ((with_reducible refine gate_dst (N := 3) rfl ?_); refine box_event ?hg (N := 3) ?hd (cs := #[.int .i64 a1_0, .int .i64 a1_1, .int .i64 a1_2, .int .i64 a1_3, .int .i64 a1_4, .int .i64 a1_5]) (t := 39) ?hr ?_; (case hd => rfl); (case hg => rfl); (case hr => first | (go_simp; done) | (go_simp; rfl)); intro gb430 hg w21 hbox hb; have n0_ := zM (z7 (g := gb429) (o := .cells #[.int .i64 a0_0, .int .i64 a0_1, .int .i64 a0_2, .int .i64 a0_3, .int .i64 a0_4, .int .i64 a0_5] 39 (0, 0)) zk hb); have n1_ := zM (zQ zb hb); have n2_ := zM (hbox); have n3_ := zM ((by rw [hg]; exact (zR zb) : w.heap.size ≤ gb430)); have n4_ := zM ((by rw [hg]; exact (zR zb) : w.heap.size ≤ gb430)); have n5_ := zM ((by rw [hg]; exact Nat.ne_of_lt (blk_lt (g := gb429) (o := .cells #[.int .i64 a0_0, .int .i64 a0_1, .int .i64 a0_2, .int .i64 a0_3, .int .i64 a0_4, .int .i64 a0_5] 39 (0, 0)) zk) : gb429 ≠ gb430)); have n6_ := zM ((by rw [hg]; exact Nat.ne_of_gt (blk_lt (g := gb429) (o := .cells #[.int .i64 a0_0, .int .i64 a0_1, .int .i64 a0_2, .int .i64 a0_3, .int .i64 a0_4, .int .i64 a0_5] 39 (0, 0)) zk) : gb430 ≠ gb429)); clear BK429; clear HB; have BK429 := n0_; have HB := n1_; have BK430 := n2_; have GW430 := n3_; have GE430 := n4_; have NB429_430 := n5_; have NB430_429 := n6_; clear n0_ n1_ n2_ n3_ n4_ n5_ n6_; clear hb hbox hg; have hnb22 := NB429_430.out; have hnc22 := NB430_429.out; have hcz23_0 := (z5 BK429.out 0).trans rfl; have hcz23_1 := (z5 BK429.out 1).trans rfl; have hcz23_2 := (z5 BK429.out 2).trans rfl; have hcz23_3 := (z5 BK429.out 3).trans rfl; have hcz23_4 := (z5 BK429.out 4).trans rfl; have hcz23_5 := (z5 BK429.out 5).trans rfl; have hfz23_0 := z6 BK429.out 0; have hfz23_1 := z6 BK429.out 1; have hfz23_2 := z6 BK429.out 2; have hfz23_3 := z6 BK429.out 3; have hfz23_4 := z6 BK429.out 4; have hfz23_5 := z6 BK429.out 5; have hcz24_0 := (z5 BK430.out 0).trans rfl; have hcz24_1 := (z5 BK430.out 1).trans rfl; have hcz24_2 := (z5 BK430.out 2).trans rfl; have hcz24_3 := (z5 BK430.out 3).trans rfl; have hcz24_4 := (z5 BK430.out 4).trans rfl; have hcz24_5 := (z5 BK430.out 5).trans rfl; have hfz24_0 := z6 BK430.out 0; have hfz24_1 := z6 BK430.out 1; have hfz24_2 := z6 BK430.out 2; have hfz24_3 := z6 BK430.out 3; have hfz24_4 := z6 BK430.out 4; have hfz24_5 := z6 BK430.out 5))
    go_ret
    exact ⟨by first | rfl | (simp [errW_none, errW_some] <;> rfl) | (simp [*, errW_none, errW_some] <;> rfl), zb⟩
  ·rw [if_neg c4] at H
   have c4b0 : (a0_1 == a1_1) = false := beq_eq_false_iff_ne.mpr c4
   have c4b1 : (a0_1 != a1_1) = true := bne_iff_ne.mpr c4
   obtain rfl := Option.some.inj H
   go_enter Try.func52, Try.ntmps52
   go_wp2_with (first | ((with_reducible refine gate_dst (N := 2) rfl ?_); refine box_event ?hg (N := 2) ?hd (cs := #[.int .i64 a0_0, .int .i64 a0_1, .int .i64 a0_2, .int .i64 a0_3, .int .i64 a0_4, .int .i64 a0_5]) (t := 39) ?hr ?_; (case hd => rfl); (case hg => rfl); (case hr => first | (go_simp; done) | (go_simp; rfl)); intro gb429 hg w25 hbox hb; have n0_ := zM (zQ zb hb); have n1_ := zM (hbox); have n2_ := zM ((by rw [hg]; exact (zR zb) : w.heap.size ≤ gb429)); have n3_ := zM ((by rw [hg]; exact (zR zb) : w.heap.size ≤ gb429)); clear HB; have HB := n0_; have BK429 := n1_; have GW429 := n2_; have GE429 := n3_; clear n0_ n1_ n2_ n3_; clear hb hbox hg) | ((with_reducible refine gate_dst (N := 3) rfl ?_); refine box_event ?hg (N := 3) ?hd (cs := #[.int .i64 a1_0, .int .i64 a1_1, .int .i64 a1_2, .int .i64 a1_3, .int .i64 a1_4, .int .i64 a1_5]) (t := 39) ?hr ?_; (case hd => rfl); (case hg => rfl); (case hr => first | (go_simp; done) | (go_simp; rfl)); intro gb430 hg w26 hbox hb; have n0_ := zM (z7 (g := gb429) (o := .cells #[.int .i64 a0_0, .int .i64 a0_1, .int .i64 a0_2, .int .i64 a0_3, .int .i64 a0_4, .int .i64 a0_5] 39 (0, 0)) zk hb); have n1_ := zM (zQ zb hb); have n2_ := zM (hbox); have n3_ := zM ((by rw [hg]; exact (zR zb) : w.heap.size ≤ gb430)); have n4_ := zM ((by rw [hg]; exact (zR zb) : w.heap.size ≤ gb430)); have n5_ := zM ((by rw [hg]; exact Nat.ne_of_lt (blk_lt (g := gb429) (o := .cells #[.int .i64 a0_0, .int .i64 a0_1, .int .i64 a0_2, .int .i64 a0_3, .int .i64 a0_4, .int .i64 a0_5] 39 (0, 0)) zk) : gb429 ≠ gb430)); have n6_ := zM ((by rw [hg]; exact Nat.ne_of_gt (blk_lt (g := gb429) (o := .cells #[.int .i64 a0_0, .int .i64 a0_1, .int .i64 a0_2, .int .i64 a0_3, .int .i64 a0_4, .int .i64 a0_5] 39 (0, 0)) zk) : gb430 ≠ gb429)); clear BK429; clear HB; have BK429 := n0_; have HB := n1_; have BK430 := n2_; have GW430 := n3_; have GE430 := n4_; have NB429_430 := n5_; have NB430_429 := n6_; clear n0_ n1_ n2_ n3_ n4_ n5_ n6_; clear hb hbox hg; have hnb27 := NB429_430.out; have hnc27 := NB430_429.out; have hcz28_0 := (z5 BK429.out 0).trans rfl; have hcz28_1 := (z5 BK429.out 1).trans rfl; have hcz28_2 := (z5 BK429.out 2).trans rfl; have hcz28_3 := (z5 BK429.out 3).trans rfl; have hcz28_4 := (z5 BK429.out 4).trans rfl; have hcz28_5 := (z5 BK429.out 5).trans rfl; have hfz28_0 := z6 BK429.out 0; have hfz28_1 := z6 BK429.out 1; have hfz28_2 := z6 BK429.out 2; have hfz28_3 := z6 BK429.out 3; have hfz28_4 := z6 BK429.out 4; have hfz28_5 := z6 BK429.out 5; have hcz29_0 := (z5 BK430.out 0).trans rfl; have hcz29_1 := (z5 BK430.out 1).trans rfl; have hcz29_2 := (z5 BK430.out 2).trans rfl; have hcz29_3 := (z5 BK430.out 3).trans rfl; have hcz29_4 := (z5 BK430.out 4).trans rfl; have hcz29_5 := (z5 BK430.out 5).trans rfl; have hfz29_0 := z6 BK430.out 0; have hfz29_1 := z6 BK430.out 1; have hfz29_2 := z6 BK430.out 2; have hfz29_3 := z6 BK430.out 3; have hfz29_4 := z6 BK430.out 4; have hfz29_5 := z6 BK430.out 5))
   go_ret
   exact ⟨by first | rfl | (simp [errW_none, errW_some] <;> rfl) | (simp [*, errW_none, errW_some] <;> rfl), zb⟩
 ·rw [if_neg c3] at H
  have c3b0 : (a0_0 == a1_0) = false := beq_eq_false_iff_ne.mpr c3
  have c3b1 : (a0_0 != a1_0) = true := bne_iff_ne.mpr c3
  obtain rfl := Option.some.inj H
  go_enter Try.func52, Try.ntmps52
  go_wp2_with (first | ((with_reducible refine gate_dst (N := 2) rfl ?_); refine box_event ?hg (N := 2) ?hd (cs := #[.int .i64 a0_0, .int .i64 a0_1, .int .i64 a0_2, .int .i64 a0_3, .int .i64 a0_4, .int .i64 a0_5]) (t := 39) ?hr ?_; (case hd => rfl); (case hg => rfl); (case hr => first | (go_simp; done) | (go_simp; rfl)); intro gb429 hg w30 hbox hb; have n0_ := zM (zQ zb hb); have n1_ := zM (hbox); have n2_ := zM ((by rw [hg]; exact (zR zb) : w.heap.size ≤ gb429)); have n3_ := zM ((by rw [hg]; exact (zR zb) : w.heap.size ≤ gb429)); clear HB; have HB := n0_; have BK429 := n1_; have GW429 := n2_; have GE429 := n3_; clear n0_ n1_ n2_ n3_; clear hb hbox hg) | ((with_reducible refine gate_dst (N := 3) rfl ?_); refine box_event ?hg (N := 3) ?hd (cs := #[.int .i64 a1_0, .int .i64 a1_1, .int .i64 a1_2, .int .i64 a1_3, .int .i64 a1_4, .int .i64 a1_5]) (t := 39) ?hr ?_; (case hd => rfl); (case hg => rfl); (case hr => first | (go_simp; done) | (go_simp; rfl)); intro gb430 hg w31 hbox hb; have n0_ := zM (z7 (g := gb429) (o := .cells #[.int .i64 a0_0, .int .i64 a0_1, .int .i64 a0_2, .int .i64 a0_3, .int .i64 a0_4, .int .i64 a0_5] 39 (0, 0)) zk hb); have n1_ := zM (zQ zb hb); have n2_ := zM (hbox); have n3_ := zM ((by rw [hg]; exact (zR zb) : w.heap.size ≤ gb430)); have n4_ := zM ((by rw [hg]; exact (zR zb) : w.heap.size ≤ gb430)); have n5_ := zM ((by rw [hg]; exact Nat.ne_of_lt (blk_lt (g := gb429) (o := .cells #[.int .i64 a0_0, .int .i64 a0_1, .int .i64 a0_2, .int .i64 a0_3, .int .i64 a0_4, .int .i64 a0_5] 39 (0, 0)) zk) : gb429 ≠ gb430)); have n6_ := zM ((by rw [hg]; exact Nat.ne_of_gt (blk_lt (g := gb429) (o := .cells #[.int .i64 a0_0, .int .i64 a0_1, .int .i64 a0_2, .int .i64 a0_3, .int .i64 a0_4, .int .i64 a0_5] 39 (0, 0)) zk) : gb430 ≠ gb429)); clear BK429; clear HB; have BK429 := n0_; have HB := n1_; have BK430 := n2_; have GW430 := n3_; have GE430 := n4_; have NB429_430 := n5_; have NB430_429 := n6_; clear n0_ n1_ n2_ n3_ n4_ n5_ n6_; clear hb hbox hg; have hnb32 := NB429_430.out; have hnc32 := NB430_429.out; have hcz33_0 := (z5 BK429.out 0).trans rfl; have hcz33_1 := (z5 BK429.out 1).trans rfl; have hcz33_2 := (z5 BK429.out 2).trans rfl; have hcz33_3 := (z5 BK429.out 3).trans rfl; have hcz33_4 := (z5 BK429.out 4).trans rfl; have hcz33_5 := (z5 BK429.out 5).trans rfl; have hfz33_0 := z6 BK429.out 0; have hfz33_1 := z6 BK429.out 1; have hfz33_2 := z6 BK429.out 2; have hfz33_3 := z6 BK429.out 3; have hfz33_4 := z6 BK429.out 4; have hfz33_5 := z6 BK429.out 5; have hcz34_0 := (z5 BK430.out 0).trans rfl; have hcz34_1 := (z5 BK430.out 1).trans rfl; have hcz34_2 := (z5 BK430.out 2).trans rfl; have hcz34_3 := (z5 BK430.out 3).trans rfl; have hcz34_4 := (z5 BK430.out 4).trans rfl; have hcz34_5 := (z5 BK430.out 5).trans rfl; have hfz34_0 := z6 BK430.out 0; have hfz34_1 := z6 BK430.out 1; have hfz34_2 := z6 BK430.out 2; have hfz34_3 := z6 BK430.out 3; have hfz34_4 := z6 BK430.out 4; have hfz34_5 := z6 BK430.out 5))
  go_ret
  exact ⟨by first | rfl | (simp [errW_none, errW_some] <;> rfl) | (simp [*, errW_none, errW_some] <;> rfl), zb⟩

/-! ### laws_eqStmtS: function 17 -/
def laws_eqStmtS.l0 : Nat → List (S39) → List (S39) → Int → Option (Bool)
 | 0, _, _, _ => none
 | k + 1, x0, x1, x5 => if x5 < (x0.length : Int) then (if 0 ≤ x5 then (if x5 < (x1.length : Int) then ((laws_eqStmt.f ((rd_T39 x0 x5).f0) ((rd_T39 x0 x5).f1) ((rd_T39 x0 x5).f2) ((rd_T39 x0 x5).f3.f0) ((rd_T39 x0 x5).f3.f1) ((rd_T39 x0 x5).f3.f2) ((rd_T39 x1 x5).f0) ((rd_T39 x1 x5).f1) ((rd_T39 x1 x5).f2) ((rd_T39 x1 x5).f3.f0) ((rd_T39 x1 x5).f3.f1) ((rd_T39 x1 x5).f3.f2)).bind fun t434 => (if t434 = true then (laws_eqStmtS.l0 k x0 x1 (wrap64 (x5 + 1))) else (some false))) else (none)) else (none)) else (some true)
def laws_eqStmtS.f (k : Nat) (l0 : List (S39)) (l1 : List (S39)) : Option (Bool) := if (l0.length : Int) = (l1.length : Int) then (laws_eqStmtS.l0 k l0 l1 0) else (some false)
theorem laws_eqStmtS.mono_l : ∀ k, (∀ y0 y1 y2, LeO (laws_eqStmtS.l0 k y0 y1 y2) (laws_eqStmtS.l0 (k + 1) y0 y1 y2))
 | 0 => fun _ _ _ r h => by simp [laws_eqStmtS.l0] at h
 | k + 1 => by
  have ih0 := laws_eqStmtS.mono_l k
  ·intro y0 y1 y2
   unfold laws_eqStmtS.l0
   repeat' first
   | (with_reducible exact ih0 _ _ _)
   | (with_reducible exact LeO.refl _)
   | (with_reducible exact LeO.none _)
   | (with_reducible refine LeO.ite ?_ ?_)
   | (with_reducible refine LeO.bind ?_ (fun _ => ?_))
   | exact ih0 _ _ _
   | exact LeO.none _
   | refine LeO.ite ?_ ?_
   | refine LeO.bind ?_ (fun _ => ?_)
theorem laws_eqStmtS.mono : ∀ a0 a1 k, LeO (laws_eqStmtS.f k a0 a1) (laws_eqStmtS.f (k + 1) a0 a1) := by
 intro a0 a1 k
 have ih0 := laws_eqStmtS.mono_l k
 unfold laws_eqStmtS.f
 repeat' first
   | (with_reducible exact ih0 _ _ _)
   | (with_reducible exact LeO.refl _)
   | (with_reducible exact LeO.none _)
   | (with_reducible refine LeO.ite ?_ ?_)
   | (with_reducible refine LeO.bind ?_ (fun _ => ?_))
   | exact ih0 _ _ _
   | exact LeO.none _
   | refine LeO.ite ?_ ?_
   | refine LeO.bind ?_ (fun _ => ?_)
def laws_eqStmtS.T6 : Bool × List (List Nat × List Nat) := (true, [([], []), ([], []), ([0, 1], [0, 1]), ([2], [2]), ([], []), ([], []), ([4, 5], [4, 5]), ([6], [6]), ([3, 7], [3, 7]), ([8], [8])])
def laws_eqStmtS.B6 : List Nat := [0, 0, 3, 7, 0, 0, 48, 112, 255, 511]
theorem laws_eqStmtS.tab6 : rtab .any (opsOf Try.f17 6) = laws_eqStmtS.T6 := by kernel_rfl
theorem laws_eqStmtS.bits6 : waitsOk laws_eqStmtS.T6.2 laws_eqStmtS.B6 = true := by kernel_rfl
set_option maxHeartbeats 8000000 in
set_option maxRecDepth 100000 in
theorem laws_eqStmtS.calls (k : Nat) (A0 : Option Addr) (c0 : Nat) (l0 : List (S39)) (A1 : Option Addr) (c1 : Nat) (l1 : List (S39)) (r : Bool) (w : World) (hr0 : Kd.C k39 w A0 l0.length l0) (hc0 : l0.length ≤ c0) (hr1 : Kd.C k39 w A1 l1.length l1) (hc1 : l1.length ≤ c1) (h : laws_eqStmtS.f k l0 l1 = some r) :
  Calls Try.prog 17 #[.slice A0 l0.length c0, .slice A1 l1.length c1] w fun e w' => e = .returned (.bool r) ∧ Below w.heap.size w w' := by
 have hu39 := Try.underlying39
 have HR0 := zM hr0
 have HC0 := zM hc0
 clear hr0 hc0
 have HR1 := zM hr1
 have HC1 := zM hc1
 clear hr1 hc1
 have HB := zM (Below.refl w.heap.size w)
 have H : (if (l0.length : Int) = (l1.length : Int) then (laws_eqStmtS.l0 k l0 l1 0) else (some false)) = some r := h
 clear h
 by_cases c3 : (l0.length : Int) = (l1.length : Int)
 ·rw [if_pos c3] at H
  have c3b0 : ((l0.length : Int) == (l1.length : Int)) = true := beq_iff_eq.mpr c3
  have c3b1 : ((l0.length : Int) != (l1.length : Int)) = false := bne_eq_false_iff_eq.mpr c3
  have c3b2 : (l0.length == l1.length) = true := by first | simpa using c3 | (simp at c3 ⊢; omega)
  clear c3
  have H' := zM H
  clear H
  go_enter Try.func17, Try.ntmps17
  go_wp2
  go_loopg [5] k (fun kq v5 w' => ∃ (x5_1 : Int), v5 = .int .i64 x5_1 ∧ Aside0 (laws_eqStmtS.l0 kq l0 l1 x5_1 = some r) ∧ Aside0 (kq ≤ k) ∧ Aside0 (Below w.heap.size w w'))
  case atStart => exact ⟨(0), zs, H', ⟨Nat.le_refl _⟩, ⟨zb⟩⟩
  case round =>
   clear H'
   try clear c1
   try clear p2
   try clear c3
   try clear c3b0
   try clear c3b1
   try clear c3b2
   obtain ⟨x5_1, rfl, HA, HK1, HB⟩ := hrel
   cases gk with
   | zero => exact absurd HA.out (by simp [laws_eqStmtS.l0])
   | succ k1 =>
    have H := HA.out
    clear HA
    simp only [laws_eqStmtS.l0] at H
    by_cases c4 : x5_1 < (l0.length : Int)
    ·rw [if_pos c4] at H
     have c4b0 : decide (x5_1 < (l0.length : Int)) = true := decide_eq_true c4
     clear c4
     by_cases c5 : 0 ≤ x5_1
     ·rw [if_pos c5] at H
      have c5b0 : decide (0 ≤ x5_1) = true := decide_eq_true c5
      clear c5
      by_cases c6 : x5_1 < (l1.length : Int)
      ·rw [if_pos c6] at H
       have c6b0 : decide (x5_1 < (l1.length : Int)) = true := decide_eq_true c6
       clear c6
       replace H := Option.bind_eq_some_iff.mp H
       obtain ⟨t434, A70, H⟩ := H
       replace H : (if t434 = true then (laws_eqStmtS.l0 k1 l0 l1 (wrap64 (x5_1 + 1))) else (some false)) = some r := H
       have A7 := zM A70
       clear A70
       by_cases c8 : t434 = true
       ·subst c8
        have H1 : (laws_eqStmtS.l0 k1 l0 l1 (wrap64 (x5_1 + 1))) = some r := by rw [if_pos rfl] at H; exact H
        clear H
        have H := H1
        clear H1
        have H' := zM H
        clear H
        try go_wp2
        have n0_ := zM (z4 HB.out)
        clear HB
        have HB := n0_
        clear n0_
        have p432 : 0 ≤ (x5_1 : Int) := zd
        have q432 : x5_1 < (l0.length : Int) := zd
        obtain ⟨ad432, e432, hx432_0, hx432_1, hx432_2, hx432_3, hx432_4, hx432_5⟩ := at_T39 HR0.out x5_1 p432 q432
        have hw432_5 := hx432_5
        have hw432_4 := hx432_4
        have hw432_3 := hx432_3
        have hw432_2 := hx432_2
        have hw432_1 := hx432_1
        have hw432_0 := hx432_0
        cases e432
        replace hx432_0 := (HB.out.cell (World.block_lt_of_cell? w _ hx432_0)).trans hx432_0
        replace hx432_1 := (HB.out.cell (World.block_lt_of_cell? w _ hx432_1)).trans hx432_1
        replace hx432_2 := (HB.out.cell (World.block_lt_of_cell? w _ hx432_2)).trans hx432_2
        replace hx432_3 := (HB.out.cell (World.block_lt_of_cell? w _ hx432_3)).trans hx432_3
        replace hx432_4 := (HB.out.cell (World.block_lt_of_cell? w _ hx432_4)).trans hx432_4
        replace hx432_5 := (HB.out.cell (World.block_lt_of_cell? w _ hx432_5)).trans hx432_5
        replace p432 := eq_true p432
        replace q432 := eq_true q432
        have p433 : 0 ≤ (x5_1 : Int) := zd
        have q433 : x5_1 < (l1.length : Int) := zd
        obtain ⟨ad433, e433, hx433_0, hx433_1, hx433_2, hx433_3, hx433_4, hx433_5⟩ := at_T39 HR1.out x5_1 p433 q433
        have hw433_5 := hx433_5
        have hw433_4 := hx433_4
        have hw433_3 := hx433_3
        have hw433_2 := hx433_2
        have hw433_1 := hx433_1
        have hw433_0 := hx433_0
        cases e433
        replace hx433_0 := (HB.out.cell (World.block_lt_of_cell? w _ hx433_0)).trans hx433_0
        replace hx433_1 := (HB.out.cell (World.block_lt_of_cell? w _ hx433_1)).trans hx433_1
        replace hx433_2 := (HB.out.cell (World.block_lt_of_cell? w _ hx433_2)).trans hx433_2
        replace hx433_3 := (HB.out.cell (World.block_lt_of_cell? w _ hx433_3)).trans hx433_3
        replace hx433_4 := (HB.out.cell (World.block_lt_of_cell? w _ hx433_4)).trans hx433_4
        replace hx433_5 := (HB.out.cell (World.block_lt_of_cell? w _ hx433_5)).trans hx433_5
        replace p433 := eq_true p433
        replace q433 := eq_true q433
        refine start_ (n := 10) (S := fun w' => w'.cell? (ad432.add ((x5_1).toNat * 6)) = some (.int .i64 ((rd_T39 l0 x5_1).f0)) ∧ w'.cell? ⟨(ad432.add ((x5_1).toNat * 6)).block, (ad432.add ((x5_1).toNat * 6)).off + 1, none⟩ = some (.int .i64 ((rd_T39 l0 x5_1).f1)) ∧ w'.cell? ⟨(ad432.add ((x5_1).toNat * 6)).block, (ad432.add ((x5_1).toNat * 6)).off + 2, none⟩ = some (.int .i64 ((rd_T39 l0 x5_1).f2)) ∧ w'.cell? ⟨(ad432.add ((x5_1).toNat * 6)).block, (ad432.add ((x5_1).toNat * 6)).off + 3, none⟩ = some (.int .i64 ((rd_T39 l0 x5_1).f3.f0)) ∧ w'.cell? ⟨(ad432.add ((x5_1).toNat * 6)).block, (ad432.add ((x5_1).toNat * 6)).off + 4, none⟩ = some (.int .i64 ((rd_T39 l0 x5_1).f3.f1)) ∧ w'.cell? ⟨(ad432.add ((x5_1).toNat * 6)).block, (ad432.add ((x5_1).toNat * 6)).off + 5, none⟩ = some (.int .i64 ((rd_T39 l0 x5_1).f3.f2)) ∧ w'.cell? (ad433.add ((x5_1).toNat * 6)) = some (.int .i64 ((rd_T39 l1 x5_1).f0)) ∧ w'.cell? ⟨(ad433.add ((x5_1).toNat * 6)).block, (ad433.add ((x5_1).toNat * 6)).off + 1, none⟩ = some (.int .i64 ((rd_T39 l1 x5_1).f1)) ∧ w'.cell? ⟨(ad433.add ((x5_1).toNat * 6)).block, (ad433.add ((x5_1).toNat * 6)).off + 2, none⟩ = some (.int .i64 ((rd_T39 l1 x5_1).f2)) ∧ w'.cell? ⟨(ad433.add ((x5_1).toNat * 6)).block, (ad433.add ((x5_1).toNat * 6)).off + 3, none⟩ = some (.int .i64 ((rd_T39 l1 x5_1).f3.f0)) ∧ w'.cell? ⟨(ad433.add ((x5_1).toNat * 6)).block, (ad433.add ((x5_1).toNat * 6)).off + 4, none⟩ = some (.int .i64 ((rd_T39 l1 x5_1).f3.f1)) ∧ w'.cell? ⟨(ad433.add ((x5_1).toNat * 6)).block, (ad433.add ((x5_1).toNat * 6)).off + 5, none⟩ = some (.int .i64 ((rd_T39 l1 x5_1).f3.f2))) (ds := []) #[false, false, false, false, false, false, false, false, false, false] (by kernel_rfl) rfl rfl ⟨((HB.out.cell (World.block_lt_of_cell? w _ hw432_0)).trans hw432_0), ((HB.out.cell (World.block_lt_of_cell? w _ hw432_1)).trans hw432_1), ((HB.out.cell (World.block_lt_of_cell? w _ hw432_2)).trans hw432_2), ((HB.out.cell (World.block_lt_of_cell? w _ hw432_3)).trans hw432_3), ((HB.out.cell (World.block_lt_of_cell? w _ hw432_4)).trans hw432_4), ((HB.out.cell (World.block_lt_of_cell? w _ hw432_5)).trans hw432_5), ((HB.out.cell (World.block_lt_of_cell? w _ hw433_0)).trans hw433_0), ((HB.out.cell (World.block_lt_of_cell? w _ hw433_1)).trans hw433_1), ((HB.out.cell (World.block_lt_of_cell? w _ hw433_2)).trans hw433_2), ((HB.out.cell (World.block_lt_of_cell? w _ hw433_3)).trans hw433_3), ((HB.out.cell (World.block_lt_of_cell? w _ hw433_4)).trans hw433_4), ((HB.out.cell (World.block_lt_of_cell? w _ hw433_5)).trans hw433_5)⟩ (fun hHeld => ?_); refine with_tabW laws_eqStmtS.tab6 laws_eqStmtS.bits6 (fun HT_ HW_ => ?_)
        generalize wr.drew = w9 at HB hx432_0 hx432_1 hx432_2 hx432_3 hx432_4 hx432_5 hx433_0 hx433_1 hx433_2 hx433_3 hx433_4 hx433_5 hHeld ⊢
        refine pure_ (i := 0) (N := some 17) (v := ?_) (a' := ?_) #[true, false, false, false, false, false, false, false, false, false] rfl rfl (any_of HT_.out (by kernel_rfl)) (fun _ _ _ h => h) (Or.inl ⟨by rfl, ?_⟩) ?_ ?_
        rotate_left
        ·intro w'
         go_simp
         with_reducible rfl
        rotate_left
        ·simp only [Act.put, List.setIfInBounds_toArray, List.set_cons_zero, List.set_cons_succ, i64_w, i32_w]
         rfl
        refine pure_ (i := 1) (N := some 18) (v := ?_) (a' := ?_) #[true, true, false, false, false, false, false, false, false, false] rfl rfl (any_of HT_.out (by kernel_rfl)) (fun _ _ _ h => h) (Or.inl ⟨by rfl, ?_⟩) ?_ ?_
        rotate_left
        ·intro w'
         go_simp
         with_reducible rfl
        rotate_left
        ·simp only [Act.put, List.setIfInBounds_toArray, List.set_cons_zero, List.set_cons_succ, i64_w, i32_w]
         rfl
        refine pure_ (i := 2) (N := some 19) (v := ?_) (a' := ?_) #[true, true, true, false, false, false, false, false, false, false] rfl rfl (any_of HT_.out (by kernel_rfl)) (fun _ _ _ h => h) (Or.inl ⟨by rfl, ?_⟩) ?_ ?_
        rotate_left
        ·intro w'
         go_simp
         with_reducible rfl
        rotate_left
        ·simp only [Act.put, List.setIfInBounds_toArray, List.set_cons_zero, List.set_cons_succ, i64_w, i32_w]
         rfl
        refine pure_ (i := 4) (N := some 21) (v := ?_) (a' := ?_) #[true, true, true, false, true, false, false, false, false, false] rfl rfl (any_of HT_.out (by kernel_rfl)) (fun _ _ _ h => h) (Or.inl ⟨by rfl, ?_⟩) ?_ ?_
        rotate_left
        ·intro w'
         go_simp
         with_reducible rfl
        rotate_left
        ·simp only [Act.put, List.setIfInBounds_toArray, List.set_cons_zero, List.set_cons_succ, i64_w, i32_w]
         rfl
        refine pure_ (i := 5) (N := some 22) (v := ?_) (a' := ?_) #[true, true, true, false, true, true, false, false, false, false] rfl rfl (any_of HT_.out (by kernel_rfl)) (fun _ _ _ h => h) (Or.inl ⟨by rfl, ?_⟩) ?_ ?_
        rotate_left
        ·intro w'
         go_simp
         with_reducible rfl
        rotate_left
        ·simp only [Act.put, List.setIfInBounds_toArray, List.set_cons_zero, List.set_cons_succ, i64_w, i32_w]
         rfl
        refine pure_ (i := 6) (N := some 23) (v := ?_) (a' := ?_) #[true, true, true, false, true, true, true, false, false, false] rfl rfl (any_of HT_.out (by kernel_rfl)) (fun _ _ _ h => h) (Or.inl ⟨by rfl, ?_⟩) ?_ ?_
        rotate_left
        ·intro w'
         go_simp
         with_reducible rfl
        rotate_left
        ·simp only [Act.put, List.setIfInBounds_toArray, List.set_cons_zero, List.set_cons_succ, i64_w, i32_w]
         rfl
        refine take_ (i := 3) (N := some 20) (v := ?_) (a' := ?_) #[true, true, true, true, true, true, true, false, false, false] rfl rfl (take_ofW HT_.out HW_.out (by kernel_rfl)) (fun _ _ _ h => h) (Or.inl ⟨by rfl, ?_⟩) hHeld ?_ ?_
        rotate_left
        ·rintro w' ⟨s0, s1, s2, s3, s4, s5, s6, s7, s8, s9, s10, s11⟩
         go_simp
         with_reducible rfl
        rotate_left
        ·simp only [Act.put, List.setIfInBounds_toArray, List.set_cons_zero, List.set_cons_succ, i64_w, i32_w]
         rfl
        refine take_ (i := 7) (N := some 24) (v := ?_) (a' := ?_) #[true, true, true, true, true, true, true, true, false, false] rfl rfl (take_ofW HT_.out HW_.out (by kernel_rfl)) (fun _ _ _ h => h) (Or.inl ⟨by rfl, ?_⟩) hHeld ?_ ?_
        rotate_left
        ·rintro w' ⟨s0, s1, s2, s3, s4, s5, s6, s7, s8, s9, s10, s11⟩
         go_simp
         with_reducible rfl
        rotate_left
        ·simp only [Act.put, List.setIfInBounds_toArray, List.set_cons_zero, List.set_cons_succ, i64_w, i32_w]
         rfl
        refine one_ (i := 8) (N := some 25) #[true, true, true, true, true, true, true, true, true, false] rfl rfl (one_of HT_.out (by kernel_rfl)) (by decide) (fun K hK => ?_)
        refine goes_ Try.func52 (by kernel_rfl) rfl #[.agg #[.int .i64 ((rd_T39 l0 x5_1).f0), .int .i64 ((rd_T39 l0 x5_1).f1), .int .i64 ((rd_T39 l0 x5_1).f2), .int .i64 ((rd_T39 l0 x5_1).f3.f0), .int .i64 ((rd_T39 l0 x5_1).f3.f1), .int .i64 ((rd_T39 l0 x5_1).f3.f2)], .agg #[.int .i64 ((rd_T39 l1 x5_1).f0), .int .i64 ((rd_T39 l1 x5_1).f1), .int .i64 ((rd_T39 l1 x5_1).f2), .int .i64 ((rd_T39 l1 x5_1).f3.f0), .int .i64 ((rd_T39 l1 x5_1).f3.f1), .int .i64 ((rd_T39 l1 x5_1).f3.f2)]] (by rfl) rfl rfl zg ?_
        with_reducible refine (laws_eqStmt.calls ((rd_T39 l0 x5_1).f0) ((rd_T39 l0 x5_1).f1) ((rd_T39 l0 x5_1).f2) ((rd_T39 l0 x5_1).f3.f0) ((rd_T39 l0 x5_1).f3.f1) ((rd_T39 l0 x5_1).f3.f2) ((rd_T39 l1 x5_1).f0) ((rd_T39 l1 x5_1).f1) ((rd_T39 l1 x5_1).f2) ((rd_T39 l1 x5_1).f3.f0) ((rd_T39 l1 x5_1).f3.f1) ((rd_T39 l1 x5_1).f3.f2) true _ A7.out).mono ?_
        rintro e w10 ⟨rfl, hb⟩
        refine ⟨_, rfl, ?_⟩
        have n0_ := zM (zQ zb hb)
        clear HB
        have HB := n0_
        clear n0_
        (try clear hb)
        (try clear hb2)
        (try clear hk)
        (try clear hi)
        refine hK.out _ _ ⟨((HB.out.cell (World.block_lt_of_cell? w _ hw432_0)).trans hw432_0), ((HB.out.cell (World.block_lt_of_cell? w _ hw432_1)).trans hw432_1), ((HB.out.cell (World.block_lt_of_cell? w _ hw432_2)).trans hw432_2), ((HB.out.cell (World.block_lt_of_cell? w _ hw432_3)).trans hw432_3), ((HB.out.cell (World.block_lt_of_cell? w _ hw432_4)).trans hw432_4), ((HB.out.cell (World.block_lt_of_cell? w _ hw432_5)).trans hw432_5), ((HB.out.cell (World.block_lt_of_cell? w _ hw433_0)).trans hw433_0), ((HB.out.cell (World.block_lt_of_cell? w _ hw433_1)).trans hw433_1), ((HB.out.cell (World.block_lt_of_cell? w _ hw433_2)).trans hw433_2), ((HB.out.cell (World.block_lt_of_cell? w _ hw433_3)).trans hw433_3), ((HB.out.cell (World.block_lt_of_cell? w _ hw433_4)).trans hw433_4), ((HB.out.cell (World.block_lt_of_cell? w _ hw433_5)).trans hw433_5)⟩ (fun hHeld => ?_)
        clear hK K
        refine norm_ (a' := ?_) ?_ ?_
        rotate_left
        ·show Act.put _ (some 25) _ = _
         simp only [Act.put, List.setIfInBounds_toArray, List.set_cons_zero, List.set_cons_succ, i64_w, i32_w]
         rfl
        refine pure_ (i := 9) (N := some 26) (v := ?_) (a' := ?_) #[true, true, true, true, true, true, true, true, true, true] rfl rfl (any_of HT_.out (by kernel_rfl)) (fun _ _ _ h => h) (Or.inl ⟨by rfl, ?_⟩) ?_ ?_
        rotate_left
        ·intro w'
         go_simp
         with_reducible rfl
        rotate_left
        ·simp only [Act.put, List.setIfInBounds_toArray, List.set_cons_zero, List.set_cons_succ, i64_w, i32_w]
         rfl
        refine done_ (done_of HT_.out (by kernel_rfl)) ?_
        try go_wp2
        go_roundg k1
        case measure => have := HK1.out; omega
        case rel => exact ⟨(wrap64 (x5_1 + 1)), zs, H', ⟨by have := HK1.out; omega⟩, ⟨zb⟩⟩
       ·replace c8 := Bool.eq_false_iff.mpr c8
        subst c8
        have H1 : (some false) = some r := by rw [if_neg (show ¬ (false = true) by decide)] at H; exact H
        clear H
        have H := H1
        clear H1
        obtain rfl := Option.some.inj H
        try go_wp2
        have n0_ := zM (z4 HB.out)
        clear HB
        have HB := n0_
        clear n0_
        have p432 : 0 ≤ (x5_1 : Int) := zd
        have q432 : x5_1 < (l0.length : Int) := zd
        obtain ⟨ad432, e432, hx432_0, hx432_1, hx432_2, hx432_3, hx432_4, hx432_5⟩ := at_T39 HR0.out x5_1 p432 q432
        have hw432_5 := hx432_5
        have hw432_4 := hx432_4
        have hw432_3 := hx432_3
        have hw432_2 := hx432_2
        have hw432_1 := hx432_1
        have hw432_0 := hx432_0
        cases e432
        replace hx432_0 := (HB.out.cell (World.block_lt_of_cell? w _ hx432_0)).trans hx432_0
        replace hx432_1 := (HB.out.cell (World.block_lt_of_cell? w _ hx432_1)).trans hx432_1
        replace hx432_2 := (HB.out.cell (World.block_lt_of_cell? w _ hx432_2)).trans hx432_2
        replace hx432_3 := (HB.out.cell (World.block_lt_of_cell? w _ hx432_3)).trans hx432_3
        replace hx432_4 := (HB.out.cell (World.block_lt_of_cell? w _ hx432_4)).trans hx432_4
        replace hx432_5 := (HB.out.cell (World.block_lt_of_cell? w _ hx432_5)).trans hx432_5
        replace p432 := eq_true p432
        replace q432 := eq_true q432
        have p433 : 0 ≤ (x5_1 : Int) := zd
        have q433 : x5_1 < (l1.length : Int) := zd
        obtain ⟨ad433, e433, hx433_0, hx433_1, hx433_2, hx433_3, hx433_4, hx433_5⟩ := at_T39 HR1.out x5_1 p433 q433
        have hw433_5 := hx433_5
        have hw433_4 := hx433_4
        have hw433_3 := hx433_3
        have hw433_2 := hx433_2
        have hw433_1 := hx433_1
        have hw433_0 := hx433_0
        cases e433
        replace hx433_0 := (HB.out.cell (World.block_lt_of_cell? w _ hx433_0)).trans hx433_0
        replace hx433_1 := (HB.out.cell (World.block_lt_of_cell? w _ hx433_1)).trans hx433_1
        replace hx433_2 := (HB.out.cell (World.block_lt_of_cell? w _ hx433_2)).trans hx433_2
        replace hx433_3 := (HB.out.cell (World.block_lt_of_cell? w _ hx433_3)).trans hx433_3
        replace hx433_4 := (HB.out.cell (World.block_lt_of_cell? w _ hx433_4)).trans hx433_4
        replace hx433_5 := (HB.out.cell (World.block_lt_of_cell? w _ hx433_5)).trans hx433_5
        replace p433 := eq_true p433
        replace q433 := eq_true q433
        refine start_ (n := 10) (S := fun w' => w'.cell? (ad432.add ((x5_1).toNat * 6)) = some (.int .i64 ((rd_T39 l0 x5_1).f0)) ∧ w'.cell? ⟨(ad432.add ((x5_1).toNat * 6)).block, (ad432.add ((x5_1).toNat * 6)).off + 1, none⟩ = some (.int .i64 ((rd_T39 l0 x5_1).f1)) ∧ w'.cell? ⟨(ad432.add ((x5_1).toNat * 6)).block, (ad432.add ((x5_1).toNat * 6)).off + 2, none⟩ = some (.int .i64 ((rd_T39 l0 x5_1).f2)) ∧ w'.cell? ⟨(ad432.add ((x5_1).toNat * 6)).block, (ad432.add ((x5_1).toNat * 6)).off + 3, none⟩ = some (.int .i64 ((rd_T39 l0 x5_1).f3.f0)) ∧ w'.cell? ⟨(ad432.add ((x5_1).toNat * 6)).block, (ad432.add ((x5_1).toNat * 6)).off + 4, none⟩ = some (.int .i64 ((rd_T39 l0 x5_1).f3.f1)) ∧ w'.cell? ⟨(ad432.add ((x5_1).toNat * 6)).block, (ad432.add ((x5_1).toNat * 6)).off + 5, none⟩ = some (.int .i64 ((rd_T39 l0 x5_1).f3.f2)) ∧ w'.cell? (ad433.add ((x5_1).toNat * 6)) = some (.int .i64 ((rd_T39 l1 x5_1).f0)) ∧ w'.cell? ⟨(ad433.add ((x5_1).toNat * 6)).block, (ad433.add ((x5_1).toNat * 6)).off + 1, none⟩ = some (.int .i64 ((rd_T39 l1 x5_1).f1)) ∧ w'.cell? ⟨(ad433.add ((x5_1).toNat * 6)).block, (ad433.add ((x5_1).toNat * 6)).off + 2, none⟩ = some (.int .i64 ((rd_T39 l1 x5_1).f2)) ∧ w'.cell? ⟨(ad433.add ((x5_1).toNat * 6)).block, (ad433.add ((x5_1).toNat * 6)).off + 3, none⟩ = some (.int .i64 ((rd_T39 l1 x5_1).f3.f0)) ∧ w'.cell? ⟨(ad433.add ((x5_1).toNat * 6)).block, (ad433.add ((x5_1).toNat * 6)).off + 4, none⟩ = some (.int .i64 ((rd_T39 l1 x5_1).f3.f1)) ∧ w'.cell? ⟨(ad433.add ((x5_1).toNat * 6)).block, (ad433.add ((x5_1).toNat * 6)).off + 5, none⟩ = some (.int .i64 ((rd_T39 l1 x5_1).f3.f2))) (ds := []) #[false, false, false, false, false, false, false, false, false, false] (by kernel_rfl) rfl rfl ⟨((HB.out.cell (World.block_lt_of_cell? w _ hw432_0)).trans hw432_0), ((HB.out.cell (World.block_lt_of_cell? w _ hw432_1)).trans hw432_1), ((HB.out.cell (World.block_lt_of_cell? w _ hw432_2)).trans hw432_2), ((HB.out.cell (World.block_lt_of_cell? w _ hw432_3)).trans hw432_3), ((HB.out.cell (World.block_lt_of_cell? w _ hw432_4)).trans hw432_4), ((HB.out.cell (World.block_lt_of_cell? w _ hw432_5)).trans hw432_5), ((HB.out.cell (World.block_lt_of_cell? w _ hw433_0)).trans hw433_0), ((HB.out.cell (World.block_lt_of_cell? w _ hw433_1)).trans hw433_1), ((HB.out.cell (World.block_lt_of_cell? w _ hw433_2)).trans hw433_2), ((HB.out.cell (World.block_lt_of_cell? w _ hw433_3)).trans hw433_3), ((HB.out.cell (World.block_lt_of_cell? w _ hw433_4)).trans hw433_4), ((HB.out.cell (World.block_lt_of_cell? w _ hw433_5)).trans hw433_5)⟩ (fun hHeld => ?_); refine with_tabW laws_eqStmtS.tab6 laws_eqStmtS.bits6 (fun HT_ HW_ => ?_)
        generalize wr.drew = w11 at HB hx432_0 hx432_1 hx432_2 hx432_3 hx432_4 hx432_5 hx433_0 hx433_1 hx433_2 hx433_3 hx433_4 hx433_5 hHeld ⊢
        refine pure_ (i := 0) (N := some 17) (v := ?_) (a' := ?_) #[true, false, false, false, false, false, false, false, false, false] rfl rfl (any_of HT_.out (by kernel_rfl)) (fun _ _ _ h => h) (Or.inl ⟨by rfl, ?_⟩) ?_ ?_
        rotate_left
        ·intro w'
         go_simp
         with_reducible rfl
        rotate_left
        ·simp only [Act.put, List.setIfInBounds_toArray, List.set_cons_zero, List.set_cons_succ, i64_w, i32_w]
         rfl
        refine pure_ (i := 1) (N := some 18) (v := ?_) (a' := ?_) #[true, true, false, false, false, false, false, false, false, false] rfl rfl (any_of HT_.out (by kernel_rfl)) (fun _ _ _ h => h) (Or.inl ⟨by rfl, ?_⟩) ?_ ?_
        rotate_left
        ·intro w'
         go_simp
         with_reducible rfl
        rotate_left
        ·simp only [Act.put, List.setIfInBounds_toArray, List.set_cons_zero, List.set_cons_succ, i64_w, i32_w]
         rfl
        refine pure_ (i := 2) (N := some 19) (v := ?_) (a' := ?_) #[true, true, true, false, false, false, false, false, false, false] rfl rfl (any_of HT_.out (by kernel_rfl)) (fun _ _ _ h => h) (Or.inl ⟨by rfl, ?_⟩) ?_ ?_
        rotate_left
        ·intro w'
         go_simp
         with_reducible rfl
        rotate_left
        ·simp only [Act.put, List.setIfInBounds_toArray, List.set_cons_zero, List.set_cons_succ, i64_w, i32_w]
         rfl
        refine pure_ (i := 4) (N := some 21) (v := ?_) (a' := ?_) #[true, true, true, false, true, false, false, false, false, false] rfl rfl (any_of HT_.out (by kernel_rfl)) (fun _ _ _ h => h) (Or.inl ⟨by rfl, ?_⟩) ?_ ?_
        rotate_left
        ·intro w'
         go_simp
         with_reducible rfl
        rotate_left
        ·simp only [Act.put, List.setIfInBounds_toArray, List.set_cons_zero, List.set_cons_succ, i64_w, i32_w]
         rfl
        refine pure_ (i := 5) (N := some 22) (v := ?_) (a' := ?_) #[true, true, true, false, true, true, false, false, false, false] rfl rfl (any_of HT_.out (by kernel_rfl)) (fun _ _ _ h => h) (Or.inl ⟨by rfl, ?_⟩) ?_ ?_
        rotate_left
        ·intro w'
         go_simp
         with_reducible rfl
        rotate_left
        ·simp only [Act.put, List.setIfInBounds_toArray, List.set_cons_zero, List.set_cons_succ, i64_w, i32_w]
         rfl
        refine pure_ (i := 6) (N := some 23) (v := ?_) (a' := ?_) #[true, true, true, false, true, true, true, false, false, false] rfl rfl (any_of HT_.out (by kernel_rfl)) (fun _ _ _ h => h) (Or.inl ⟨by rfl, ?_⟩) ?_ ?_
        rotate_left
        ·intro w'
         go_simp
         with_reducible rfl
        rotate_left
        ·simp only [Act.put, List.setIfInBounds_toArray, List.set_cons_zero, List.set_cons_succ, i64_w, i32_w]
         rfl
        refine take_ (i := 3) (N := some 20) (v := ?_) (a' := ?_) #[true, true, true, true, true, true, true, false, false, false] rfl rfl (take_ofW HT_.out HW_.out (by kernel_rfl)) (fun _ _ _ h => h) (Or.inl ⟨by rfl, ?_⟩) hHeld ?_ ?_
        rotate_left
        ·rintro w' ⟨s0, s1, s2, s3, s4, s5, s6, s7, s8, s9, s10, s11⟩
         go_simp
         with_reducible rfl
        rotate_left
        ·simp only [Act.put, List.setIfInBounds_toArray, List.set_cons_zero, List.set_cons_succ, i64_w, i32_w]
         rfl
        refine take_ (i := 7) (N := some 24) (v := ?_) (a' := ?_) #[true, true, true, true, true, true, true, true, false, false] rfl rfl (take_ofW HT_.out HW_.out (by kernel_rfl)) (fun _ _ _ h => h) (Or.inl ⟨by rfl, ?_⟩) hHeld ?_ ?_
        rotate_left
        ·rintro w' ⟨s0, s1, s2, s3, s4, s5, s6, s7, s8, s9, s10, s11⟩
         go_simp
         with_reducible rfl
        rotate_left
        ·simp only [Act.put, List.setIfInBounds_toArray, List.set_cons_zero, List.set_cons_succ, i64_w, i32_w]
         rfl
        refine one_ (i := 8) (N := some 25) #[true, true, true, true, true, true, true, true, true, false] rfl rfl (one_of HT_.out (by kernel_rfl)) (by decide) (fun K hK => ?_)
        refine goes_ Try.func52 (by kernel_rfl) rfl #[.agg #[.int .i64 ((rd_T39 l0 x5_1).f0), .int .i64 ((rd_T39 l0 x5_1).f1), .int .i64 ((rd_T39 l0 x5_1).f2), .int .i64 ((rd_T39 l0 x5_1).f3.f0), .int .i64 ((rd_T39 l0 x5_1).f3.f1), .int .i64 ((rd_T39 l0 x5_1).f3.f2)], .agg #[.int .i64 ((rd_T39 l1 x5_1).f0), .int .i64 ((rd_T39 l1 x5_1).f1), .int .i64 ((rd_T39 l1 x5_1).f2), .int .i64 ((rd_T39 l1 x5_1).f3.f0), .int .i64 ((rd_T39 l1 x5_1).f3.f1), .int .i64 ((rd_T39 l1 x5_1).f3.f2)]] (by rfl) rfl rfl zg ?_
        with_reducible refine (laws_eqStmt.calls ((rd_T39 l0 x5_1).f0) ((rd_T39 l0 x5_1).f1) ((rd_T39 l0 x5_1).f2) ((rd_T39 l0 x5_1).f3.f0) ((rd_T39 l0 x5_1).f3.f1) ((rd_T39 l0 x5_1).f3.f2) ((rd_T39 l1 x5_1).f0) ((rd_T39 l1 x5_1).f1) ((rd_T39 l1 x5_1).f2) ((rd_T39 l1 x5_1).f3.f0) ((rd_T39 l1 x5_1).f3.f1) ((rd_T39 l1 x5_1).f3.f2) false _ A7.out).mono ?_
        rintro e w12 ⟨rfl, hb⟩
        refine ⟨_, rfl, ?_⟩
        have n0_ := zM (zQ zb hb)
        clear HB
        have HB := n0_
        clear n0_
        (try clear hb)
        (try clear hb2)
        (try clear hk)
        (try clear hi)
        refine hK.out _ _ ⟨((HB.out.cell (World.block_lt_of_cell? w _ hw432_0)).trans hw432_0), ((HB.out.cell (World.block_lt_of_cell? w _ hw432_1)).trans hw432_1), ((HB.out.cell (World.block_lt_of_cell? w _ hw432_2)).trans hw432_2), ((HB.out.cell (World.block_lt_of_cell? w _ hw432_3)).trans hw432_3), ((HB.out.cell (World.block_lt_of_cell? w _ hw432_4)).trans hw432_4), ((HB.out.cell (World.block_lt_of_cell? w _ hw432_5)).trans hw432_5), ((HB.out.cell (World.block_lt_of_cell? w _ hw433_0)).trans hw433_0), ((HB.out.cell (World.block_lt_of_cell? w _ hw433_1)).trans hw433_1), ((HB.out.cell (World.block_lt_of_cell? w _ hw433_2)).trans hw433_2), ((HB.out.cell (World.block_lt_of_cell? w _ hw433_3)).trans hw433_3), ((HB.out.cell (World.block_lt_of_cell? w _ hw433_4)).trans hw433_4), ((HB.out.cell (World.block_lt_of_cell? w _ hw433_5)).trans hw433_5)⟩ (fun hHeld => ?_)
        clear hK K
        refine norm_ (a' := ?_) ?_ ?_
        rotate_left
        ·show Act.put _ (some 25) _ = _
         simp only [Act.put, List.setIfInBounds_toArray, List.set_cons_zero, List.set_cons_succ, i64_w, i32_w]
         rfl
        refine pure_ (i := 9) (N := some 26) (v := ?_) (a' := ?_) #[true, true, true, true, true, true, true, true, true, true] rfl rfl (any_of HT_.out (by kernel_rfl)) (fun _ _ _ h => h) (Or.inl ⟨by rfl, ?_⟩) ?_ ?_
        rotate_left
        ·intro w'
         go_simp
         with_reducible rfl
        rotate_left
        ·simp only [Act.put, List.setIfInBounds_toArray, List.set_cons_zero, List.set_cons_succ, i64_w, i32_w]
         rfl
        refine done_ (done_of HT_.out (by kernel_rfl)) ?_
        try go_wp2
        go_ret
        exact ⟨by first | rfl | (simp [errW_none, errW_some] <;> rfl) | (simp [*, errW_none, errW_some] <;> rfl), zb⟩
      ·rw [if_neg c6] at H
       exact absurd H (by simp)
     ·rw [if_neg c5] at H
      exact absurd H (by simp)
    ·rw [if_neg c4] at H
     have c4b0 : decide (x5_1 < (l0.length : Int)) = false := decide_eq_false c4
     clear c4
     obtain rfl := Option.some.inj H
     go_wp2
     go_ret
     exact ⟨by first | rfl | (simp [errW_none, errW_some] <;> rfl) | (simp [*, errW_none, errW_some] <;> rfl), zb⟩
 ·rw [if_neg c3] at H
  have c3b0 : ((l0.length : Int) == (l1.length : Int)) = false := beq_eq_false_iff_ne.mpr c3
  have c3b1 : ((l0.length : Int) != (l1.length : Int)) = true := bne_iff_ne.mpr c3
  have c3b2 : (l0.length == l1.length) = false := by first | simpa using c3 | (simp at c3 ⊢; omega)
  obtain rfl := Option.some.inj H
  go_enter Try.func17, Try.ntmps17
  go_wp2
  go_ret
  exact ⟨by first | rfl | (simp [errW_none, errW_some] <;> rfl) | (simp [*, errW_none, errW_some] <;> rfl), zb⟩

end Go.Proofs.Ytlhcofkandeepaa.PFnExactLogRoom
