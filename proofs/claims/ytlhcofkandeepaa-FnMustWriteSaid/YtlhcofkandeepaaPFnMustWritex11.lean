/- Walks of the functions that a statement reaches, written by a program (the printing program, mended): no condition. -/
import Derived.Test.YtlhcofkandeepaaPFnMustWritex0
import Derived.Test.YtlhcofkandeepaaPFnMustWritex5
import Derived.Test.YtlhcofkandeepaaPFnMustWritex7
import Derived.Test.YtlhcofkandeepaaPFnMustWritex8
import Derived.Test.YtlhcofkandeepaaPFnMustWritex10
namespace Go.Proofs.Ytlhcofkandeepaa.PFnMustWrite
open Go.RowKit Go.Proofs.YtlhcofkandeepaaW.PrintWords Go.Proofs.YtlhcofkandeepaaW.PrintLast Go.Proofs.YtlhcofkandeepaaW.PrintMore
attribute [local go_sem] max2_int min2_int max_two min_two max_three min_three max_four min_four   -- for this text's walks alone
set_option linter.unusedVariables false
set_option linter.unusedSimpArgs false

/-! ### laws_FnMustWrite: function 5 -/
mutual
def laws_FnMustWrite.l0 : Nat → List (S39) → List Int → List Int → Bool → Int → Option (Bool)
  | 0, _, _, _, _, _ => none
  | k + 1, x3, x4, x5, x6, x7 => if x7 < (x3.length : Int) then (if x6 = true then (if 0 ≤ x7 then (laws_FnMustWrite.l0 k x3 x4 x5 (((rd_T39 x3 x7).f0) != 4) (wrap64 (x7 + 1))) else (none)) else (laws_FnMustWrite.l0 k x3 x4 x5 false (wrap64 (x7 + 1)))) else (laws_FnMustWrite.l1 k x4 x5 x6 0)
def laws_FnMustWrite.l1 : Nat → List Int → List Int → Bool → Int → Option (Bool)
  | 0, _, _, _, _ => none
  | k + 1, x4, x5, x6, x8 => if x8 < 8 then ((laws_has.f k x5 x8).bind fun t384 => (if t384 = true then ((laws_has.f k x4 x8).bind fun t385 => (if t385 = true then (if x6 = true then (if (t384 != t385) = true then (some false) else ((impl_HasVar.f k x4 x8).bind fun t386 => (if (t386 != t385) = true then (some false) else (laws_FnMustWrite.l1 k x4 x5 x6 (wrap64 (x8 + 1)))))) else ((impl_HasVar.f k x4 x8).bind fun t387 => (if (t387 != t385) = true then (some false) else (laws_FnMustWrite.l1 k x4 x5 x6 (wrap64 (x8 + 1)))))) else (some false))) else (if x6 = true then ((laws_has.f k x4 x8).bind fun t388 => (if (t384 != t388) = true then (some false) else ((impl_HasVar.f k x4 x8).bind fun t389 => (if (t389 != t388) = true then (some false) else (laws_FnMustWrite.l1 k x4 x5 x6 (wrap64 (x8 + 1))))))) else ((impl_HasVar.f k x4 x8).bind fun t390 => ((laws_has.f k x4 x8).bind fun t391 => (if (t390 != t391) = true then (some false) else (laws_FnMustWrite.l1 k x4 x5 x6 (wrap64 (x8 + 1))))))))) else (some true)
end
def laws_FnMustWrite.f (k : Nat) (l0 : List Int) : Option (Bool) := (laws_big.f l0).bind fun t370 => (if t370 = true then (some true) else ((spec_DrawBlock.f k l0).bind fun t371 => ((impl_MayWrite.f k t371).bind fun t374 => ((impl_MustWrite.f k t371).bind fun t377 => ((spec_MayWrite.f k t371).bind fun t380 => (if (t374.length : Int) = (t380.length : Int) then (laws_FnMustWrite.l0 k t371 t374 t377 true 0) else (some false)))))))
theorem laws_FnMustWrite.mono_l : ∀ k, (∀ y0 y1 y2 y3 y4, LeO (laws_FnMustWrite.l0 k y0 y1 y2 y3 y4) (laws_FnMustWrite.l0 (k + 1) y0 y1 y2 y3 y4)) ∧ (∀ y0 y1 y2 y3, LeO (laws_FnMustWrite.l1 k y0 y1 y2 y3) (laws_FnMustWrite.l1 (k + 1) y0 y1 y2 y3))
  | 0 => ⟨fun _ _ _ _ _ r h => by simp [laws_FnMustWrite.l0] at h, fun _ _ _ _ r h => by simp [laws_FnMustWrite.l1] at h⟩
  | k + 1 => by
    obtain ⟨ih0, ih1⟩ := laws_FnMustWrite.mono_l k
    refine ⟨?_, ?_⟩
    · intro y0 y1 y2 y3 y4
      unfold laws_FnMustWrite.l0
      repeat' first
      | (with_reducible exact ih0 _ _ _ _ _)
      | (with_reducible exact ih1 _ _ _ _)
      | (with_reducible exact impl_HasVar.mono _ _ _)
      | (with_reducible exact impl_MayWrite.mono _ _)
      | (with_reducible exact impl_MustWrite.mono _ _)
      | (with_reducible exact laws_has.mono _ _ _)
      | (with_reducible exact spec_DrawBlock.mono _ _)
      | (with_reducible exact spec_MayWrite.mono _ _)
      | (with_reducible exact LeO.refl _)
      | (with_reducible exact LeO.none _)
      | (with_reducible refine LeO.ite ?_ ?_)
      | (with_reducible refine LeO.bind ?_ (fun _ => ?_))
      | exact ih0 _ _ _ _ _
      | exact ih1 _ _ _ _
      | exact impl_HasVar.mono _ _ _
      | exact impl_MayWrite.mono _ _
      | exact impl_MustWrite.mono _ _
      | exact laws_has.mono _ _ _
      | exact spec_DrawBlock.mono _ _
      | exact spec_MayWrite.mono _ _
      | exact LeO.none _
      | refine LeO.ite ?_ ?_
      | refine LeO.bind ?_ (fun _ => ?_)
    · intro y0 y1 y2 y3
      unfold laws_FnMustWrite.l1
      repeat' first
      | (with_reducible exact ih0 _ _ _ _ _)
      | (with_reducible exact ih1 _ _ _ _)
      | (with_reducible exact impl_HasVar.mono _ _ _)
      | (with_reducible exact impl_MayWrite.mono _ _)
      | (with_reducible exact impl_MustWrite.mono _ _)
      | (with_reducible exact laws_has.mono _ _ _)
      | (with_reducible exact spec_DrawBlock.mono _ _)
      | (with_reducible exact spec_MayWrite.mono _ _)
      | (with_reducible exact LeO.refl _)
      | (with_reducible exact LeO.none _)
      | (with_reducible refine LeO.ite ?_ ?_)
      | (with_reducible refine LeO.bind ?_ (fun _ => ?_))
      | exact ih0 _ _ _ _ _
      | exact ih1 _ _ _ _
      | exact impl_HasVar.mono _ _ _
      | exact impl_MayWrite.mono _ _
      | exact impl_MustWrite.mono _ _
      | exact laws_has.mono _ _ _
      | exact spec_DrawBlock.mono _ _
      | exact spec_MayWrite.mono _ _
      | exact LeO.none _
      | refine LeO.ite ?_ ?_
      | refine LeO.bind ?_ (fun _ => ?_)
theorem laws_FnMustWrite.mono : ∀ a0 k, LeO (laws_FnMustWrite.f k a0) (laws_FnMustWrite.f (k + 1) a0) := by
  intro a0 k
  obtain ⟨ih0, ih1⟩ := laws_FnMustWrite.mono_l k
  unfold laws_FnMustWrite.f
  repeat' first
      | (with_reducible exact ih0 _ _ _ _ _)
      | (with_reducible exact ih1 _ _ _ _)
      | (with_reducible exact impl_HasVar.mono _ _ _)
      | (with_reducible exact impl_MayWrite.mono _ _)
      | (with_reducible exact impl_MustWrite.mono _ _)
      | (with_reducible exact laws_has.mono _ _ _)
      | (with_reducible exact spec_DrawBlock.mono _ _)
      | (with_reducible exact spec_MayWrite.mono _ _)
      | (with_reducible exact LeO.refl _)
      | (with_reducible exact LeO.none _)
      | (with_reducible refine LeO.ite ?_ ?_)
      | (with_reducible refine LeO.bind ?_ (fun _ => ?_))
      | exact ih0 _ _ _ _ _
      | exact ih1 _ _ _ _
      | exact impl_HasVar.mono _ _ _
      | exact impl_MayWrite.mono _ _
      | exact impl_MustWrite.mono _ _
      | exact laws_has.mono _ _ _
      | exact spec_DrawBlock.mono _ _
      | exact spec_MayWrite.mono _ _
      | exact LeO.none _
      | refine LeO.ite ?_ ?_
      | refine LeO.bind ?_ (fun _ => ?_)
set_option maxHeartbeats 8000000 in
set_option maxRecDepth 100000 in
theorem laws_FnMustWrite.calls (k : Nat) (A0 : Option Addr) (c0 : Nat) (l0 : List Int) (r : Bool) (w : World) (hr0 : Kd.C (Kd.int .u8) w A0 l0.length l0) (hc0 : l0.length ≤ c0) (h : laws_FnMustWrite.f k l0 = some r) (ht_ : r = true) :
    Calls Try.prog 5 #[.slice A0 l0.length c0] w fun e w' => e = .returned (.bool r) ∧ Below w.heap.size w w' := by
  have HR0 := Aside0.mk hr0
  have HC0 := Aside0.mk hc0
  clear hr0 hc0
  have HB := Aside0.mk (Below.refl w.heap.size w)
  have H : ((laws_big.f l0).bind fun t370 => (if t370 = true then (some true) else ((spec_DrawBlock.f k l0).bind fun t371 => ((impl_MayWrite.f k t371).bind fun t374 => ((impl_MustWrite.f k t371).bind fun t377 => ((spec_MayWrite.f k t371).bind fun t380 => (if (t374.length : Int) = (t380.length : Int) then (laws_FnMustWrite.l0 k t371 t374 t377 true 0) else (some false)))))))) = some r := h
  clear h
  replace H := Option.bind_eq_some_iff.mp H
  obtain ⟨t370, A20, H⟩ := H
  replace H : (if t370 = true then (some true) else ((spec_DrawBlock.f k l0).bind fun t371 => ((impl_MayWrite.f k t371).bind fun t374 => ((impl_MustWrite.f k t371).bind fun t377 => ((spec_MayWrite.f k t371).bind fun t380 => (if (t374.length : Int) = (t380.length : Int) then (laws_FnMustWrite.l0 k t371 t374 t377 true 0) else (some false))))))) = some r := H
  have A2 := Aside0.mk A20
  clear A20
  by_cases c3 : t370 = true
  · subst c3
    have H1 : (some true) = some r := by rw [if_pos rfl] at H; exact H
    clear H
    have H := H1
    clear H1
    obtain rfl := Option.some.inj H
    go_enter Try.func5, Try.ntmps5
    go_wp2_with (first | ((with_reducible refine gate_callee (f := 23) rfl ?_); refine goesL_ (some 10) rfl rfl Try.func23 (by kernel_rfl) rfl #[.slice A0 l0.length c0] rfl (by (try simp only [List.map_toArray, List.map_cons, List.map_nil]); first | done | rfl | (simp only [List.length_drop, List.length_take]; rfl)) ?_; (with_reducible refine (laws_big.calls _ _ l0 true _ ?side1 ?side2 A2.out).mono ?_); (case side1 => repeat (first | exact HR0.out | (with_reducible refine Kd.C_alloc ?_ _) | (with_reducible refine Kd.C_drewN ?_ _) | (with_reducible refine Kd.C_drew ?_))); (case side2 => exact HC0.out); rintro e w' ⟨rfl, ⟨nd, rfl⟩⟩; refine ⟨_, rfl, ?_⟩) | (go_at_call 23; (with_reducible refine (laws_big.calls _ _ l0 true _ ?side1 ?side2 A2.out).mono ?_); (case side1 => repeat (first | exact HR0.out | (with_reducible refine Kd.C_alloc ?_ _) | (with_reducible refine Kd.C_drewN ?_ _) | (with_reducible refine Kd.C_drew ?_))); (case side2 => exact HC0.out); rintro e w' ⟨rfl, ⟨nd, rfl⟩⟩))
    go_ret
    exact ⟨by first | rfl | (simp [errW_none, errW_some] <;> rfl) | (simp [*, errW_none, errW_some] <;> rfl), by repeat (first | (with_reducible first | exact HB.out | apply below_alloc | apply pw_below_drewN | apply below_drew1) | exact HB.out)⟩
  · replace c3 := Bool.eq_false_iff.mpr c3
    subst c3
    have H1 : ((spec_DrawBlock.f k l0).bind fun t371 => ((impl_MayWrite.f k t371).bind fun t374 => ((impl_MustWrite.f k t371).bind fun t377 => ((spec_MayWrite.f k t371).bind fun t380 => (if (t374.length : Int) = (t380.length : Int) then (laws_FnMustWrite.l0 k t371 t374 t377 true 0) else (some false)))))) = some r := by rw [if_neg (show ¬ (false = true) by decide)] at H; exact H
    clear H
    have H := H1
    clear H1
    replace H := Option.bind_eq_some_iff.mp H
    obtain ⟨t371, A40, H⟩ := H
    replace H : ((impl_MayWrite.f k t371).bind fun t374 => ((impl_MustWrite.f k t371).bind fun t377 => ((spec_MayWrite.f k t371).bind fun t380 => (if (t374.length : Int) = (t380.length : Int) then (laws_FnMustWrite.l0 k t371 t374 t377 true 0) else (some false))))) = some r := H
    have A4 := Aside0.mk A40
    clear A40
    replace H := Option.bind_eq_some_iff.mp H
    obtain ⟨t374, A50, H⟩ := H
    replace H : ((impl_MustWrite.f k t371).bind fun t377 => ((spec_MayWrite.f k t371).bind fun t380 => (if (t374.length : Int) = (t380.length : Int) then (laws_FnMustWrite.l0 k t371 t374 t377 true 0) else (some false)))) = some r := H
    have A5 := Aside0.mk A50
    clear A50
    replace H := Option.bind_eq_some_iff.mp H
    obtain ⟨t377, A60, H⟩ := H
    replace H : ((spec_MayWrite.f k t371).bind fun t380 => (if (t374.length : Int) = (t380.length : Int) then (laws_FnMustWrite.l0 k t371 t374 t377 true 0) else (some false))) = some r := H
    have A6 := Aside0.mk A60
    clear A60
    replace H := Option.bind_eq_some_iff.mp H
    obtain ⟨t380, A70, H⟩ := H
    replace H : (if (t374.length : Int) = (t380.length : Int) then (laws_FnMustWrite.l0 k t371 t374 t377 true 0) else (some false)) = some r := H
    have A7 := Aside0.mk A70
    clear A70
    by_cases c8 : (t374.length : Int) = (t380.length : Int)
    · rw [if_pos c8] at H
      have c8b0 : ((t374.length : Int) == (t380.length : Int)) = true := beq_iff_eq.mpr c8
      have c8b1 : ((t374.length : Int) != (t380.length : Int)) = false := bne_eq_false_iff_eq.mpr c8
      have c8b2 : (t374.length == t380.length) = true := by first | simpa using c8 | (simp at c8 ⊢; omega)
      clear c8
      have H' := Aside0.mk H
      clear H
      go_enter Try.func5, Try.ntmps5
      go_wp2_with (first | ((with_reducible refine gate_callee (f := 23) rfl ?_); refine goesL_ (some 10) rfl rfl Try.func23 (by kernel_rfl) rfl #[.slice A0 l0.length c0] rfl (by (try simp only [List.map_toArray, List.map_cons, List.map_nil]); first | done | rfl | (simp only [List.length_drop, List.length_take]; rfl)) ?_; (with_reducible refine (laws_big.calls _ _ l0 false _ ?side1 ?side2 A2.out).mono ?_); (case side1 => repeat (first | exact HR0.out | (with_reducible refine Kd.C_alloc ?_ _) | (with_reducible refine Kd.C_drewN ?_ _) | (with_reducible refine Kd.C_drew ?_))); (case side2 => exact HC0.out); rintro e w' ⟨rfl, ⟨nd, rfl⟩⟩; refine ⟨_, rfl, ?_⟩) | ((with_reducible refine gate_callee (f := 24) rfl ?_); refine goesL_ (some 12) rfl rfl Try.func24 (by kernel_rfl) rfl #[.slice A0 l0.length c0] rfl (by (try simp only [List.map_toArray, List.map_cons, List.map_nil]); first | done | rfl | (simp only [List.length_drop, List.length_take]; rfl)) ?_; (with_reducible refine (spec_DrawBlock.calls k _ _ l0 t371 _ ?side1 ?side2 A4.out).mono ?_); (case side1 => repeat (first | exact HR0.out | (with_reducible refine Kd.C_alloc ?_ _) | (with_reducible refine Kd.C_drewN ?_ _) | (with_reducible refine Kd.C_drew ?_))); (case side2 => exact HC0.out); rintro e w9 ⟨v372, rfl, ho0, hb⟩; refine ⟨_, rfl, ?_⟩; have n0_ := Aside0.mk (Kd.R_lower ho0 (below_size (by repeat (first | (with_reducible first | exact HB.out | apply below_alloc | apply pw_below_drewN | apply below_drew1) | exact HB.out)))); have n1_ := Aside0.mk (below_step (by repeat (first | (with_reducible first | exact HB.out | apply below_alloc | apply pw_below_drewN | apply below_drew1) | exact HB.out)) hb); clear HB; have HO373 := n0_; have HB := n1_; clear n0_ n1_; (try clear hb); (try clear hb2); (try clear hk); (try clear hi); (try clear ho0); obtain ⟨Ao10, co10, eo10⟩ := Kd.R_slice HO373.out; subst eo10) | ((with_reducible refine gate_callee (f := 15) rfl ?_); refine goesL_ (some 14) rfl rfl Try.func15 (by kernel_rfl) rfl #[.slice Ao10 t371.length co10] rfl (by (try simp only [List.map_toArray, List.map_cons, List.map_nil]); first | done | rfl | (simp only [List.length_drop, List.length_take]; rfl)) ?_; (with_reducible refine (impl_MayWrite.calls k _ _ t371 t374 _ ?side1 ?side2 A5.out).mono ?_); (case side1 => repeat (first | exact (Kd.R_reads' HO373.out).2.2 | (with_reducible refine Kd.C_alloc ?_ _) | (with_reducible refine Kd.C_drewN ?_ _) | (with_reducible refine Kd.C_drew ?_))); (case side2 => exact (Kd.R_reads' HO373.out).2.1); rintro e w11 ⟨v375, rfl, ho0, hb⟩; refine ⟨_, rfl, ?_⟩; have n0_ := Aside0.mk (Kd.R_below (by (with_reducible repeat (first | apply Kd.R_alloc | apply Kd.R_drewN | apply Kd.R_drew)); exact HO373.out) hb); have n1_ := Aside0.mk (Kd.R_lower ho0 (below_size (by repeat (first | (with_reducible first | exact HB.out | apply below_alloc | apply pw_below_drewN | apply below_drew1) | exact HB.out)))); have n2_ := Aside0.mk (below_step (by repeat (first | (with_reducible first | exact HB.out | apply below_alloc | apply pw_below_drewN | apply below_drew1) | exact HB.out)) hb); clear HO373; clear HB; have HO373 := n0_; have HO376 := n1_; have HB := n2_; clear n0_ n1_ n2_; (try clear hb); (try clear hb2); (try clear hk); (try clear hi); (try clear ho0)) | ((with_reducible refine gate_callee (f := 22) rfl ?_); refine goesL_ (some 16) rfl rfl Try.func22 (by kernel_rfl) rfl #[.slice Ao10 t371.length co10] rfl (by (try simp only [List.map_toArray, List.map_cons, List.map_nil]); first | done | rfl | (simp only [List.length_drop, List.length_take]; rfl)) ?_; (with_reducible refine (impl_MustWrite.calls k _ _ t371 t377 _ ?side1 ?side2 A6.out).mono ?_); (case side1 => repeat (first | exact (Kd.R_reads' HO373.out).2.2 | (with_reducible refine Kd.C_alloc ?_ _) | (with_reducible refine Kd.C_drewN ?_ _) | (with_reducible refine Kd.C_drew ?_))); (case side2 => exact (Kd.R_reads' HO373.out).2.1); rintro e w12 ⟨v378, rfl, ho0, hb⟩; refine ⟨_, rfl, ?_⟩; have n0_ := Aside0.mk (Kd.R_below (by (with_reducible repeat (first | apply Kd.R_alloc | apply Kd.R_drewN | apply Kd.R_drew)); exact HO373.out) hb); have n1_ := Aside0.mk (Kd.R_elder' (by (with_reducible repeat (first | apply Kd.R_alloc | apply Kd.R_drewN | apply Kd.R_drew)); exact HO376.out) (Kd.R_base ho0) hb); have n2_ := Aside0.mk (Kd.R_lower (Kd.R_new' ho0 (Kd.R_lt (by (with_reducible repeat (first | apply Kd.R_alloc | apply Kd.R_drewN | apply Kd.R_drew)); exact HO376.out))) (below_size (by repeat (first | (with_reducible first | exact HB.out | apply below_alloc | apply pw_below_drewN | apply below_drew1) | exact HB.out)))); have n3_ := Aside0.mk (below_step (by repeat (first | (with_reducible first | exact HB.out | apply below_alloc | apply pw_below_drewN | apply below_drew1) | exact HB.out)) hb); clear HO373; clear HO376; clear HB; have HO373 := n0_; have HO376 := n1_; have HO379 := n2_; have HB := n3_; clear n0_ n1_ n2_ n3_; (try clear hb); (try clear hb2); (try clear hk); (try clear hi); (try clear ho0); obtain ⟨Ao13, co13, eo13⟩ := Kd.R_slice HO376.out; subst eo13) | ((with_reducible refine gate_callee (f := 13) rfl ?_); refine goesL_ (some 20) rfl rfl Try.func13 (by kernel_rfl) rfl #[.slice Ao10 t371.length co10] rfl (by (try simp only [List.map_toArray, List.map_cons, List.map_nil]); first | done | rfl | (simp only [List.length_drop, List.length_take]; rfl)) ?_; (with_reducible refine (spec_MayWrite.calls k _ _ t371 t380 _ ?side1 ?side2 A7.out).mono ?_); (case side1 => repeat (first | exact (Kd.R_reads' HO373.out).2.2 | (with_reducible refine Kd.C_alloc ?_ _) | (with_reducible refine Kd.C_drewN ?_ _) | (with_reducible refine Kd.C_drew ?_))); (case side2 => exact (Kd.R_reads' HO373.out).2.1); rintro e w14 ⟨v381, rfl, ho0, hb⟩; refine ⟨_, rfl, ?_⟩; have n0_ := Aside0.mk (Kd.R_below (by (with_reducible repeat (first | apply Kd.R_alloc | apply Kd.R_drewN | apply Kd.R_drew)); exact HO373.out) hb); have n1_ := Aside0.mk (Kd.R_elder' (by (with_reducible repeat (first | apply Kd.R_alloc | apply Kd.R_drewN | apply Kd.R_drew)); exact HO376.out) (Kd.R_base ho0) hb); have n2_ := Aside0.mk (Kd.R_elder' (by (with_reducible repeat (first | apply Kd.R_alloc | apply Kd.R_drewN | apply Kd.R_drew)); exact HO379.out) (Kd.R_base ho0) hb); have n3_ := Aside0.mk (Kd.R_lower (Kd.R_new' (Kd.R_new' ho0 (Kd.R_lt (by (with_reducible repeat (first | apply Kd.R_alloc | apply Kd.R_drewN | apply Kd.R_drew)); exact HO376.out))) (Kd.R_lt (by (with_reducible repeat (first | apply Kd.R_alloc | apply Kd.R_drewN | apply Kd.R_drew)); exact HO379.out))) (below_size (by repeat (first | (with_reducible first | exact HB.out | apply below_alloc | apply pw_below_drewN | apply below_drew1) | exact HB.out)))); have n4_ := Aside0.mk (below_step (by repeat (first | (with_reducible first | exact HB.out | apply below_alloc | apply pw_below_drewN | apply below_drew1) | exact HB.out)) hb); clear HO373; clear HO376; clear HO379; clear HB; have HO373 := n0_; have HO376 := n1_; have HO379 := n2_; have HO382 := n3_; have HB := n4_; clear n0_ n1_ n2_ n3_ n4_; (try clear hb); (try clear hb2); (try clear hk); (try clear hi); (try clear ho0); obtain ⟨Ao15, co15, eo15⟩ := Kd.R_slice HO382.out; subst eo15) | (go_at_call 23; (with_reducible refine (laws_big.calls _ _ l0 false _ ?side1 ?side2 A2.out).mono ?_); (case side1 => repeat (first | exact HR0.out | (with_reducible refine Kd.C_alloc ?_ _) | (with_reducible refine Kd.C_drewN ?_ _) | (with_reducible refine Kd.C_drew ?_))); (case side2 => exact HC0.out); rintro e w' ⟨rfl, ⟨nd, rfl⟩⟩))
      go_loopg [6, 7] k (fun kq v6 v7 w' => ∃ (x6_1 : Bool) (x7_1 : Int), v6 = .bool x6_1 ∧ v7 = .int .i64 x7_1 ∧ Aside0 (laws_FnMustWrite.l0 kq t371 t374 t377 x6_1 x7_1 = some r) ∧ Aside0 (kq ≤ k) ∧ Aside0 (Kd.R k39 39 w' w.heap.size (fun _ => True) (.slice Ao10 t371.length co10) t371) ∧ Aside0 (Kd.R (Kd.int .i64) 3 w' w.heap.size (fun k_ => some k_ ≠ (v378 : Value).ownBlock) (.slice Ao13 t374.length co13) t374) ∧ Aside0 (Kd.R (Kd.int .i64) 3 w' w.heap.size (fun k_ => some k_ ≠ ((.slice Ao13 t374.length co13) : Value).ownBlock) v378 t377) ∧ Aside0 (Below w.heap.size w w'))
      case atStart => exact ⟨(true), (0), (by first | rfl | (simp; done) | (simp [*]; done)), (by first | rfl | (simp; done) | (simp [*]; done)), H', ⟨Nat.le_refl _⟩, ⟨by (with_reducible repeat (first | apply Kd.R_alloc | apply Kd.R_drewN | apply Kd.R_drew)); exact HO373.out⟩, ⟨by (with_reducible repeat (first | apply Kd.R_alloc | apply Kd.R_drewN | apply Kd.R_drew)); exact Kd.R_mono HO376.out (fun _ hk => hk.1.2)⟩, ⟨by (with_reducible repeat (first | apply Kd.R_alloc | apply Kd.R_drewN | apply Kd.R_drew)); exact Kd.R_mono HO379.out (fun _ hk => hk.1.2)⟩, ⟨by repeat (first | (with_reducible first | exact HB.out | apply below_alloc | apply pw_below_drewN | apply below_drew1) | exact HB.out)⟩⟩
      case round =>
        clear H'
        try clear c1
        try clear c2
        try clear p2
        try clear c3
        try clear c5
        try clear c8
        try clear c8b0
        try clear c8b1
        try clear c8b2
        try clear c13
        try clear c15
        obtain ⟨x6_1, x7_1, rfl, rfl, HA, HK1, HO_3, HO_4, HO_5, HB⟩ := hrel
        cases gk with
        | zero => exact absurd HA.out (by simp [laws_FnMustWrite.l0])
        | succ k1 =>
          have H := HA.out
          clear HA
          simp only [laws_FnMustWrite.l0] at H
          by_cases c16 : x7_1 < (t371.length : Int)
          · rw [if_pos c16] at H
            have c16b0 : decide (x7_1 < (t371.length : Int)) = true := decide_eq_true c16
            clear c16
            by_cases c17 : x6_1 = true
            · subst c17
              have H1 : (if 0 ≤ x7_1 then (laws_FnMustWrite.l0 k1 t371 t374 t377 (((rd_T39 t371 x7_1).f0) != 4) (wrap64 (x7_1 + 1))) else (none)) = some r := by rw [if_pos rfl] at H; exact H
              clear H
              have H := H1
              clear H1
              by_cases c18 : 0 ≤ x7_1
              · rw [if_pos c18] at H
                have c18b0 : decide (0 ≤ x7_1) = true := decide_eq_true c18
                clear c18
                have H' := Aside0.mk H
                clear H
                have p383 : 0 ≤ (x7_1 : Int) := of_decide_eq_true (by first | (with_reducible assumption) | assumption)
                have q383 : x7_1 < (t371.length : Int) := of_decide_eq_true (by first | (with_reducible assumption) | assumption)
                obtain ⟨ad383, e383, hx383_0, hx383_1, hx383_2, hx383_3, hx383_4, hx383_5⟩ := at_T39 (Kd.R_reads' HO_3.out).2.2 x7_1 p383 q383
                cases e383
                replace p383 := eq_true p383
                replace q383 := eq_true q383
                go_wp2
                go_roundg k1
                case measure => have := HK1.out; omega
                case rel => exact ⟨((((rd_T39 t371 x7_1).f0) != 4)), (wrap64 (x7_1 + 1)), (by first | rfl | (simp; done) | (simp [*]; done)), (by first | rfl | (simp; done) | (simp [*]; done)), H', ⟨by have := HK1.out; omega⟩, ⟨by (with_reducible repeat (first | apply Kd.R_alloc | apply Kd.R_drewN | apply Kd.R_drew)); exact HO_3.out⟩, ⟨by (with_reducible repeat (first | apply Kd.R_alloc | apply Kd.R_drewN | apply Kd.R_drew)); exact HO_4.out⟩, ⟨by (with_reducible repeat (first | apply Kd.R_alloc | apply Kd.R_drewN | apply Kd.R_drew)); exact HO_5.out⟩, ⟨by repeat (first | (with_reducible first | exact HB.out | apply below_alloc | apply pw_below_drewN | apply below_drew1) | exact HB.out)⟩⟩
              · rw [if_neg c18] at H
                exact absurd H (by simp)
            · replace c17 := Bool.eq_false_iff.mpr c17
              subst c17
              have H1 : (laws_FnMustWrite.l0 k1 t371 t374 t377 false (wrap64 (x7_1 + 1))) = some r := by rw [if_neg (show ¬ (false = true) by decide)] at H; exact H
              clear H
              have H := H1
              clear H1
              have H' := Aside0.mk H
              clear H
              go_wp2
              go_roundg k1
              case measure => have := HK1.out; omega
              case rel => exact ⟨(false), (wrap64 (x7_1 + 1)), (by first | rfl | (simp; done) | (simp [*]; done)), (by first | rfl | (simp; done) | (simp [*]; done)), H', ⟨by have := HK1.out; omega⟩, ⟨by (with_reducible repeat (first | apply Kd.R_alloc | apply Kd.R_drewN | apply Kd.R_drew)); exact HO_3.out⟩, ⟨by (with_reducible repeat (first | apply Kd.R_alloc | apply Kd.R_drewN | apply Kd.R_drew)); exact HO_4.out⟩, ⟨by (with_reducible repeat (first | apply Kd.R_alloc | apply Kd.R_drewN | apply Kd.R_drew)); exact HO_5.out⟩, ⟨by repeat (first | (with_reducible first | exact HB.out | apply below_alloc | apply pw_below_drewN | apply below_drew1) | exact HB.out)⟩⟩
          · rw [if_neg c16] at H
            have c16b0 : decide (x7_1 < (t371.length : Int)) = false := decide_eq_false c16
            clear c16
            have H' := Aside0.mk H
            clear H
            go_wp2
            go_loopg [8] k1 (fun kq v8 w' => ∃ (x8_2 : Int), v8 = .int .i64 x8_2 ∧ Aside0 (laws_FnMustWrite.l1 kq t374 t377 x6_1 x8_2 = some r) ∧ Aside0 (kq ≤ k1) ∧ Aside0 (Kd.R (Kd.int .i64) 3 w' w.heap.size (fun k_ => some k_ ≠ (v378 : Value).ownBlock) (.slice Ao13 t374.length co13) t374) ∧ Aside0 (Kd.R (Kd.int .i64) 3 w' w.heap.size (fun k_ => some k_ ≠ ((.slice Ao13 t374.length co13) : Value).ownBlock) v378 t377) ∧ Aside0 (Below w.heap.size w w'))
            case atStart => exact ⟨(0), (by first | rfl | (simp; done) | (simp [*]; done)), H', ⟨Nat.le_refl _⟩, ⟨by (with_reducible repeat (first | apply Kd.R_alloc | apply Kd.R_drewN | apply Kd.R_drew)); exact HO_4.out⟩, ⟨by (with_reducible repeat (first | apply Kd.R_alloc | apply Kd.R_drewN | apply Kd.R_drew)); exact HO_5.out⟩, ⟨by repeat (first | (with_reducible first | exact HB.out | apply below_alloc | apply pw_below_drewN | apply below_drew1) | exact HB.out)⟩⟩
            case round =>
              clear H'
              try clear c1
              try clear c2
              try clear p2
              try clear c3
              try clear p3
              try clear q3
              try clear hx3
              try clear c5
              try clear p6
              try clear c8
              try clear c8b0
              try clear c8b1
              try clear c8b2
              try clear c13
              try clear c15
              try clear c16
              try clear c16b0
              try clear c17
              try clear c18
              try clear c18b0
              try clear hx383_0
              try clear hx383_1
              try clear hx383_2
              try clear hx383_3
              try clear hx383_4
              try clear hx383_5
              try clear p2
              try clear p383
              try clear q383
              obtain ⟨x8_2, rfl, HA, HK2, HO_4, HO_5, HB⟩ := hrel
              cases gk with
              | zero => exact absurd HA.out (by simp [laws_FnMustWrite.l1])
              | succ k2 =>
                have H := HA.out
                clear HA
                simp only [laws_FnMustWrite.l1] at H
                by_cases c19 : x8_2 < 8
                · rw [if_pos c19] at H
                  have c19b0 : decide (x8_2 < 8) = true := decide_eq_true c19
                  clear c19
                  replace H := Option.bind_eq_some_iff.mp H
                  obtain ⟨t384, A200, H⟩ := H
                  replace H : (if t384 = true then ((laws_has.f k2 t374 x8_2).bind fun t385 => (if t385 = true then (if x6_1 = true then (if (t384 != t385) = true then (some false) else ((impl_HasVar.f k2 t374 x8_2).bind fun t386 => (if (t386 != t385) = true then (some false) else (laws_FnMustWrite.l1 k2 t374 t377 x6_1 (wrap64 (x8_2 + 1)))))) else ((impl_HasVar.f k2 t374 x8_2).bind fun t387 => (if (t387 != t385) = true then (some false) else (laws_FnMustWrite.l1 k2 t374 t377 x6_1 (wrap64 (x8_2 + 1)))))) else (some false))) else (if x6_1 = true then ((laws_has.f k2 t374 x8_2).bind fun t388 => (if (t384 != t388) = true then (some false) else ((impl_HasVar.f k2 t374 x8_2).bind fun t389 => (if (t389 != t388) = true then (some false) else (laws_FnMustWrite.l1 k2 t374 t377 x6_1 (wrap64 (x8_2 + 1))))))) else ((impl_HasVar.f k2 t374 x8_2).bind fun t390 => ((laws_has.f k2 t374 x8_2).bind fun t391 => (if (t390 != t391) = true then (some false) else (laws_FnMustWrite.l1 k2 t374 t377 x6_1 (wrap64 (x8_2 + 1)))))))) = some r := H
                  have A20 := Aside0.mk A200
                  clear A200
                  by_cases c21 : t384 = true
                  · subst c21
                    have H1 : ((laws_has.f k2 t374 x8_2).bind fun t385 => (if t385 = true then (if x6_1 = true then (if (true != t385) = true then (some false) else ((impl_HasVar.f k2 t374 x8_2).bind fun t386 => (if (t386 != t385) = true then (some false) else (laws_FnMustWrite.l1 k2 t374 t377 x6_1 (wrap64 (x8_2 + 1)))))) else ((impl_HasVar.f k2 t374 x8_2).bind fun t387 => (if (t387 != t385) = true then (some false) else (laws_FnMustWrite.l1 k2 t374 t377 x6_1 (wrap64 (x8_2 + 1)))))) else (some false))) = some r := by rw [if_pos rfl] at H; exact H
                    clear H
                    have H := H1
                    clear H1
                    replace H := Option.bind_eq_some_iff.mp H
                    obtain ⟨t385, A220, H⟩ := H
                    replace H : (if t385 = true then (if x6_1 = true then (if (true != t385) = true then (some false) else ((impl_HasVar.f k2 t374 x8_2).bind fun t386 => (if (t386 != t385) = true then (some false) else (laws_FnMustWrite.l1 k2 t374 t377 x6_1 (wrap64 (x8_2 + 1)))))) else ((impl_HasVar.f k2 t374 x8_2).bind fun t387 => (if (t387 != t385) = true then (some false) else (laws_FnMustWrite.l1 k2 t374 t377 x6_1 (wrap64 (x8_2 + 1)))))) else (some false)) = some r := H
                    have A22 := Aside0.mk A220
                    clear A220
                    by_cases c23 : t385 = true
                    · subst c23
                      have H1 : (if x6_1 = true then (if (true != true) = true then (some false) else ((impl_HasVar.f k2 t374 x8_2).bind fun t386 => (if (t386 != true) = true then (some false) else (laws_FnMustWrite.l1 k2 t374 t377 x6_1 (wrap64 (x8_2 + 1)))))) else ((impl_HasVar.f k2 t374 x8_2).bind fun t387 => (if (t387 != true) = true then (some false) else (laws_FnMustWrite.l1 k2 t374 t377 x6_1 (wrap64 (x8_2 + 1)))))) = some r := by rw [if_pos rfl] at H; exact H
                      clear H
                      have H := H1
                      clear H1
                      by_cases c24 : x6_1 = true
                      · subst c24
                        have H1 : (if (true != true) = true then (some false) else ((impl_HasVar.f k2 t374 x8_2).bind fun t386 => (if (t386 != true) = true then (some false) else (laws_FnMustWrite.l1 k2 t374 t377 true (wrap64 (x8_2 + 1)))))) = some r := by rw [if_pos rfl] at H; exact H
                        clear H
                        have H := H1
                        clear H1
                        by_cases c25 : (true != true) = true
                        · rw [if_pos c25] at H
                          have c25b0 : (true != true) = true := c25
                          (try (have c25b1 : decide (true = true) = false := by first | (revert c25; simp; done) | simpa using c25))
                          (try (have c25b2 : (true == true) = false := by first | (revert c25; simp; done) | simpa using c25))
                          (try (have c25b3 : ¬ (true = true) := by first | (revert c25; simp; done) | simpa using c25))
                          clear c25
                          exact absurd ((Option.some.inj H).trans ht_) (by decide)
                        · rw [if_neg c25] at H
                          have c25b0 : (true != true) = false := by first | (revert c25; simp; done) | simpa using c25
                          (try (have c25b1 : decide (true = true) = true := by first | (revert c25; simp; done) | simpa using c25))
                          (try (have c25b2 : (true == true) = true := by first | (revert c25; simp; done) | simpa using c25))
                          clear c25
                          replace H := Option.bind_eq_some_iff.mp H
                          obtain ⟨t386, A260, H⟩ := H
                          replace H : (if (t386 != true) = true then (some false) else (laws_FnMustWrite.l1 k2 t374 t377 true (wrap64 (x8_2 + 1)))) = some r := H
                          have A26 := Aside0.mk A260
                          clear A260
                          by_cases c27 : (t386 != true) = true
                          · rw [if_pos c27] at H
                            have c27b0 : (t386 != true) = true := c27
                            (try (have c27b1 : decide (t386 = true) = false := by first | (revert c27; simp; done) | simpa using c27))
                            (try (have c27b2 : (t386 == true) = false := by first | (revert c27; simp; done) | simpa using c27))
                            (try (have c27b3 : ¬ (t386 = true) := by first | (revert c27; simp; done) | simpa using c27))
                            clear c27
                            exact absurd ((Option.some.inj H).trans ht_) (by decide)
                          · rw [if_neg c27] at H
                            have c27b0 : (t386 != true) = false := by first | (revert c27; simp; done) | simpa using c27
                            (try (have c27b1 : decide (t386 = true) = true := by first | (revert c27; simp; done) | simpa using c27))
                            (try (have c27b2 : (t386 == true) = true := by first | (revert c27; simp; done) | simpa using c27))
                            clear c27
                            have H' := Aside0.mk H
                            clear H
                            obtain ⟨Ao28, co28, eo28⟩ := Kd.R_slice HO_5.out
                            subst eo28
                            go_wp2_with (first | ((with_reducible refine gate_callee (f := 25) rfl ?_); refine goesL_ (some 44) rfl rfl Try.func25 (by kernel_rfl) rfl #[.slice Ao28 t377.length co28, .int .i64 x8_2] rfl (by (try simp only [List.map_toArray, List.map_cons, List.map_nil]); first | done | rfl | (simp only [List.length_drop, List.length_take]; rfl)) ?_; (with_reducible refine (laws_has.calls k2 _ _ t377 x8_2 true _ ?side1 ?side2 A20.out).mono ?_); (case side1 => repeat (first | exact (Kd.R_reads' HO_5.out).2.2 | (with_reducible refine Kd.C_alloc ?_ _) | (with_reducible refine Kd.C_drewN ?_ _) | (with_reducible refine Kd.C_drew ?_))); (case side2 => exact (Kd.R_reads' HO_5.out).2.1); rintro e w' ⟨rfl, ⟨nd, rfl⟩⟩; refine ⟨_, rfl, ?_⟩) | (go_at_call 25; (with_reducible refine (laws_has.calls k2 _ _ t374 x8_2 true _ ?side1 ?side2 A22.out).mono ?_); (case side1 => repeat (first | exact (Kd.R_reads' HO_4.out).2.2 | (with_reducible refine Kd.C_alloc ?_ _) | (with_reducible refine Kd.C_drewN ?_ _) | (with_reducible refine Kd.C_drew ?_))); (case side2 => exact (Kd.R_reads' HO_4.out).2.1); rintro e w' ⟨rfl, ⟨nd, rfl⟩⟩) | (go_at_call 26; (with_reducible refine (impl_HasVar.calls k2 _ _ t374 x8_2 t386 _ ?side1 ?side2 A26.out).mono ?_); (case side1 => repeat (first | exact (Kd.R_reads' HO_4.out).2.2 | (with_reducible refine Kd.C_alloc ?_ _) | (with_reducible refine Kd.C_drewN ?_ _) | (with_reducible refine Kd.C_drew ?_))); (case side2 => exact (Kd.R_reads' HO_4.out).2.1); rintro e w' ⟨rfl, ⟨nd, rfl⟩⟩) | (go_at_call 25; (with_reducible refine (laws_has.calls k2 _ _ t377 x8_2 true _ ?side1 ?side2 A20.out).mono ?_); (case side1 => repeat (first | exact (Kd.R_reads' HO_5.out).2.2 | (with_reducible refine Kd.C_alloc ?_ _) | (with_reducible refine Kd.C_drewN ?_ _) | (with_reducible refine Kd.C_drew ?_))); (case side2 => exact (Kd.R_reads' HO_5.out).2.1); rintro e w' ⟨rfl, ⟨nd, rfl⟩⟩))
                            go_roundg k2
                            case measure => have := HK1.out; have := HK2.out; omega
                            case rel => exact ⟨(wrap64 (x8_2 + 1)), (by first | rfl | (simp; done) | (simp [*]; done)), H', ⟨by have := HK1.out; have := HK2.out; omega⟩, ⟨by (with_reducible repeat (first | apply Kd.R_alloc | apply Kd.R_drewN | apply Kd.R_drew)); exact HO_4.out⟩, ⟨by (with_reducible repeat (first | apply Kd.R_alloc | apply Kd.R_drewN | apply Kd.R_drew)); exact HO_5.out⟩, ⟨by repeat (first | (with_reducible first | exact HB.out | apply below_alloc | apply pw_below_drewN | apply below_drew1) | exact HB.out)⟩⟩
                      · replace c24 := Bool.eq_false_iff.mpr c24
                        subst c24
                        have H1 : ((impl_HasVar.f k2 t374 x8_2).bind fun t387 => (if (t387 != true) = true then (some false) else (laws_FnMustWrite.l1 k2 t374 t377 false (wrap64 (x8_2 + 1))))) = some r := by rw [if_neg (show ¬ (false = true) by decide)] at H; exact H
                        clear H
                        have H := H1
                        clear H1
                        replace H := Option.bind_eq_some_iff.mp H
                        obtain ⟨t387, A290, H⟩ := H
                        replace H : (if (t387 != true) = true then (some false) else (laws_FnMustWrite.l1 k2 t374 t377 false (wrap64 (x8_2 + 1)))) = some r := H
                        have A29 := Aside0.mk A290
                        clear A290
                        by_cases c30 : (t387 != true) = true
                        · rw [if_pos c30] at H
                          have c30b0 : (t387 != true) = true := c30
                          (try (have c30b1 : decide (t387 = true) = false := by first | (revert c30; simp; done) | simpa using c30))
                          (try (have c30b2 : (t387 == true) = false := by first | (revert c30; simp; done) | simpa using c30))
                          (try (have c30b3 : ¬ (t387 = true) := by first | (revert c30; simp; done) | simpa using c30))
                          clear c30
                          exact absurd ((Option.some.inj H).trans ht_) (by decide)
                        · rw [if_neg c30] at H
                          have c30b0 : (t387 != true) = false := by first | (revert c30; simp; done) | simpa using c30
                          (try (have c30b1 : decide (t387 = true) = true := by first | (revert c30; simp; done) | simpa using c30))
                          (try (have c30b2 : (t387 == true) = true := by first | (revert c30; simp; done) | simpa using c30))
                          clear c30
                          have H' := Aside0.mk H
                          clear H
                          obtain ⟨Ao31, co31, eo31⟩ := Kd.R_slice HO_5.out
                          subst eo31
                          go_wp2_with (first | ((with_reducible refine gate_callee (f := 25) rfl ?_); refine goesL_ (some 44) rfl rfl Try.func25 (by kernel_rfl) rfl #[.slice Ao31 t377.length co31, .int .i64 x8_2] rfl (by (try simp only [List.map_toArray, List.map_cons, List.map_nil]); first | done | rfl | (simp only [List.length_drop, List.length_take]; rfl)) ?_; (with_reducible refine (laws_has.calls k2 _ _ t377 x8_2 true _ ?side1 ?side2 A20.out).mono ?_); (case side1 => repeat (first | exact (Kd.R_reads' HO_5.out).2.2 | (with_reducible refine Kd.C_alloc ?_ _) | (with_reducible refine Kd.C_drewN ?_ _) | (with_reducible refine Kd.C_drew ?_))); (case side2 => exact (Kd.R_reads' HO_5.out).2.1); rintro e w' ⟨rfl, ⟨nd, rfl⟩⟩; refine ⟨_, rfl, ?_⟩) | (go_at_call 25; (with_reducible refine (laws_has.calls k2 _ _ t374 x8_2 true _ ?side1 ?side2 A22.out).mono ?_); (case side1 => repeat (first | exact (Kd.R_reads' HO_4.out).2.2 | (with_reducible refine Kd.C_alloc ?_ _) | (with_reducible refine Kd.C_drewN ?_ _) | (with_reducible refine Kd.C_drew ?_))); (case side2 => exact (Kd.R_reads' HO_4.out).2.1); rintro e w' ⟨rfl, ⟨nd, rfl⟩⟩) | (go_at_call 26; (with_reducible refine (impl_HasVar.calls k2 _ _ t374 x8_2 t387 _ ?side1 ?side2 A29.out).mono ?_); (case side1 => repeat (first | exact (Kd.R_reads' HO_4.out).2.2 | (with_reducible refine Kd.C_alloc ?_ _) | (with_reducible refine Kd.C_drewN ?_ _) | (with_reducible refine Kd.C_drew ?_))); (case side2 => exact (Kd.R_reads' HO_4.out).2.1); rintro e w' ⟨rfl, ⟨nd, rfl⟩⟩) | (go_at_call 25; (with_reducible refine (laws_has.calls k2 _ _ t377 x8_2 true _ ?side1 ?side2 A20.out).mono ?_); (case side1 => repeat (first | exact (Kd.R_reads' HO_5.out).2.2 | (with_reducible refine Kd.C_alloc ?_ _) | (with_reducible refine Kd.C_drewN ?_ _) | (with_reducible refine Kd.C_drew ?_))); (case side2 => exact (Kd.R_reads' HO_5.out).2.1); rintro e w' ⟨rfl, ⟨nd, rfl⟩⟩))
                          go_roundg k2
                          case measure => have := HK1.out; have := HK2.out; omega
                          case rel => exact ⟨(wrap64 (x8_2 + 1)), (by first | rfl | (simp; done) | (simp [*]; done)), H', ⟨by have := HK1.out; have := HK2.out; omega⟩, ⟨by (with_reducible repeat (first | apply Kd.R_alloc | apply Kd.R_drewN | apply Kd.R_drew)); exact HO_4.out⟩, ⟨by (with_reducible repeat (first | apply Kd.R_alloc | apply Kd.R_drewN | apply Kd.R_drew)); exact HO_5.out⟩, ⟨by repeat (first | (with_reducible first | exact HB.out | apply below_alloc | apply pw_below_drewN | apply below_drew1) | exact HB.out)⟩⟩
                    · replace c23 := Bool.eq_false_iff.mpr c23
                      subst c23
                      have H1 : (some false) = some r := by rw [if_neg (show ¬ (false = true) by decide)] at H; exact H
                      clear H
                      have H := H1
                      clear H1
                      exact absurd ((Option.some.inj H).trans ht_) (by decide)
                  · replace c21 := Bool.eq_false_iff.mpr c21
                    subst c21
                    have H1 : (if x6_1 = true then ((laws_has.f k2 t374 x8_2).bind fun t388 => (if (false != t388) = true then (some false) else ((impl_HasVar.f k2 t374 x8_2).bind fun t389 => (if (t389 != t388) = true then (some false) else (laws_FnMustWrite.l1 k2 t374 t377 x6_1 (wrap64 (x8_2 + 1))))))) else ((impl_HasVar.f k2 t374 x8_2).bind fun t390 => ((laws_has.f k2 t374 x8_2).bind fun t391 => (if (t390 != t391) = true then (some false) else (laws_FnMustWrite.l1 k2 t374 t377 x6_1 (wrap64 (x8_2 + 1))))))) = some r := by rw [if_neg (show ¬ (false = true) by decide)] at H; exact H
                    clear H
                    have H := H1
                    clear H1
                    by_cases c32 : x6_1 = true
                    · subst c32
                      have H1 : ((laws_has.f k2 t374 x8_2).bind fun t388 => (if (false != t388) = true then (some false) else ((impl_HasVar.f k2 t374 x8_2).bind fun t389 => (if (t389 != t388) = true then (some false) else (laws_FnMustWrite.l1 k2 t374 t377 true (wrap64 (x8_2 + 1))))))) = some r := by rw [if_pos rfl] at H; exact H
                      clear H
                      have H := H1
                      clear H1
                      replace H := Option.bind_eq_some_iff.mp H
                      obtain ⟨t388, A330, H⟩ := H
                      replace H : (if (false != t388) = true then (some false) else ((impl_HasVar.f k2 t374 x8_2).bind fun t389 => (if (t389 != t388) = true then (some false) else (laws_FnMustWrite.l1 k2 t374 t377 true (wrap64 (x8_2 + 1)))))) = some r := H
                      have A33 := Aside0.mk A330
                      clear A330
                      by_cases c34 : (false != t388) = true
                      · rw [if_pos c34] at H
                        have c34b0 : (false != t388) = true := c34
                        (try (have c34b1 : decide (false = t388) = false := by first | (revert c34; simp; done) | simpa using c34))
                        (try (have c34b2 : (false == t388) = false := by first | (revert c34; simp; done) | simpa using c34))
                        (try (have c34b3 : ¬ (false = t388) := by first | (revert c34; simp; done) | simpa using c34))
                        clear c34
                        exact absurd ((Option.some.inj H).trans ht_) (by decide)
                      · rw [if_neg c34] at H
                        have c34b0 : (false != t388) = false := by first | (revert c34; simp; done) | simpa using c34
                        (try (have c34b1 : decide (false = t388) = true := by first | (revert c34; simp; done) | simpa using c34))
                        (try (have c34b2 : (false == t388) = true := by first | (revert c34; simp; done) | simpa using c34))
                        clear c34
                        replace H := Option.bind_eq_some_iff.mp H
                        obtain ⟨t389, A350, H⟩ := H
                        replace H : (if (t389 != t388) = true then (some false) else (laws_FnMustWrite.l1 k2 t374 t377 true (wrap64 (x8_2 + 1)))) = some r := H
                        have A35 := Aside0.mk A350
                        clear A350
                        by_cases c36 : (t389 != t388) = true
                        · rw [if_pos c36] at H
                          have c36b0 : (t389 != t388) = true := c36
                          (try (have c36b1 : decide (t389 = t388) = false := by first | (revert c36; simp; done) | simpa using c36))
                          (try (have c36b2 : (t389 == t388) = false := by first | (revert c36; simp; done) | simpa using c36))
                          (try (have c36b3 : ¬ (t389 = t388) := by first | (revert c36; simp; done) | simpa using c36))
                          clear c36
                          exact absurd ((Option.some.inj H).trans ht_) (by decide)
                        · rw [if_neg c36] at H
                          have c36b0 : (t389 != t388) = false := by first | (revert c36; simp; done) | simpa using c36
                          (try (have c36b1 : decide (t389 = t388) = true := by first | (revert c36; simp; done) | simpa using c36))
                          (try (have c36b2 : (t389 == t388) = true := by first | (revert c36; simp; done) | simpa using c36))
                          clear c36
                          have H' := Aside0.mk H
                          clear H
                          obtain ⟨Ao37, co37, eo37⟩ := Kd.R_slice HO_5.out
                          subst eo37
                          go_wp2_with (first | ((with_reducible refine gate_callee (f := 25) rfl ?_); refine goesL_ (some 44) rfl rfl Try.func25 (by kernel_rfl) rfl #[.slice Ao37 t377.length co37, .int .i64 x8_2] rfl (by (try simp only [List.map_toArray, List.map_cons, List.map_nil]); first | done | rfl | (simp only [List.length_drop, List.length_take]; rfl)) ?_; (with_reducible refine (laws_has.calls k2 _ _ t377 x8_2 false _ ?side1 ?side2 A20.out).mono ?_); (case side1 => repeat (first | exact (Kd.R_reads' HO_5.out).2.2 | (with_reducible refine Kd.C_alloc ?_ _) | (with_reducible refine Kd.C_drewN ?_ _) | (with_reducible refine Kd.C_drew ?_))); (case side2 => exact (Kd.R_reads' HO_5.out).2.1); rintro e w' ⟨rfl, ⟨nd, rfl⟩⟩; refine ⟨_, rfl, ?_⟩) | (go_at_call 25; (with_reducible refine (laws_has.calls k2 _ _ t374 x8_2 t388 _ ?side1 ?side2 A33.out).mono ?_); (case side1 => repeat (first | exact (Kd.R_reads' HO_4.out).2.2 | (with_reducible refine Kd.C_alloc ?_ _) | (with_reducible refine Kd.C_drewN ?_ _) | (with_reducible refine Kd.C_drew ?_))); (case side2 => exact (Kd.R_reads' HO_4.out).2.1); rintro e w' ⟨rfl, ⟨nd, rfl⟩⟩) | (go_at_call 26; (with_reducible refine (impl_HasVar.calls k2 _ _ t374 x8_2 t389 _ ?side1 ?side2 A35.out).mono ?_); (case side1 => repeat (first | exact (Kd.R_reads' HO_4.out).2.2 | (with_reducible refine Kd.C_alloc ?_ _) | (with_reducible refine Kd.C_drewN ?_ _) | (with_reducible refine Kd.C_drew ?_))); (case side2 => exact (Kd.R_reads' HO_4.out).2.1); rintro e w' ⟨rfl, ⟨nd, rfl⟩⟩) | (go_at_call 25; (with_reducible refine (laws_has.calls k2 _ _ t377 x8_2 false _ ?side1 ?side2 A20.out).mono ?_); (case side1 => repeat (first | exact (Kd.R_reads' HO_5.out).2.2 | (with_reducible refine Kd.C_alloc ?_ _) | (with_reducible refine Kd.C_drewN ?_ _) | (with_reducible refine Kd.C_drew ?_))); (case side2 => exact (Kd.R_reads' HO_5.out).2.1); rintro e w' ⟨rfl, ⟨nd, rfl⟩⟩))
                          go_roundg k2
                          case measure => have := HK1.out; have := HK2.out; omega
                          case rel => exact ⟨(wrap64 (x8_2 + 1)), (by first | rfl | (simp; done) | (simp [*]; done)), H', ⟨by have := HK1.out; have := HK2.out; omega⟩, ⟨by (with_reducible repeat (first | apply Kd.R_alloc | apply Kd.R_drewN | apply Kd.R_drew)); exact HO_4.out⟩, ⟨by (with_reducible repeat (first | apply Kd.R_alloc | apply Kd.R_drewN | apply Kd.R_drew)); exact HO_5.out⟩, ⟨by repeat (first | (with_reducible first | exact HB.out | apply below_alloc | apply pw_below_drewN | apply below_drew1) | exact HB.out)⟩⟩
                    · replace c32 := Bool.eq_false_iff.mpr c32
                      subst c32
                      have H1 : ((impl_HasVar.f k2 t374 x8_2).bind fun t390 => ((laws_has.f k2 t374 x8_2).bind fun t391 => (if (t390 != t391) = true then (some false) else (laws_FnMustWrite.l1 k2 t374 t377 false (wrap64 (x8_2 + 1)))))) = some r := by rw [if_neg (show ¬ (false = true) by decide)] at H; exact H
                      clear H
                      have H := H1
                      clear H1
                      replace H := Option.bind_eq_some_iff.mp H
                      obtain ⟨t390, A380, H⟩ := H
                      replace H : ((laws_has.f k2 t374 x8_2).bind fun t391 => (if (t390 != t391) = true then (some false) else (laws_FnMustWrite.l1 k2 t374 t377 false (wrap64 (x8_2 + 1))))) = some r := H
                      have A38 := Aside0.mk A380
                      clear A380
                      replace H := Option.bind_eq_some_iff.mp H
                      obtain ⟨t391, A390, H⟩ := H
                      replace H : (if (t390 != t391) = true then (some false) else (laws_FnMustWrite.l1 k2 t374 t377 false (wrap64 (x8_2 + 1)))) = some r := H
                      have A39 := Aside0.mk A390
                      clear A390
                      by_cases c40 : (t390 != t391) = true
                      · rw [if_pos c40] at H
                        have c40b0 : (t390 != t391) = true := c40
                        (try (have c40b1 : decide (t390 = t391) = false := by first | (revert c40; simp; done) | simpa using c40))
                        (try (have c40b2 : (t390 == t391) = false := by first | (revert c40; simp; done) | simpa using c40))
                        (try (have c40b3 : ¬ (t390 = t391) := by first | (revert c40; simp; done) | simpa using c40))
                        clear c40
                        exact absurd ((Option.some.inj H).trans ht_) (by decide)
                      · rw [if_neg c40] at H
                        have c40b0 : (t390 != t391) = false := by first | (revert c40; simp; done) | simpa using c40
                        (try (have c40b1 : decide (t390 = t391) = true := by first | (revert c40; simp; done) | simpa using c40))
                        (try (have c40b2 : (t390 == t391) = true := by first | (revert c40; simp; done) | simpa using c40))
                        clear c40
                        have H' := Aside0.mk H
                        clear H
                        obtain ⟨Ao41, co41, eo41⟩ := Kd.R_slice HO_5.out
                        subst eo41
                        go_wp2_with (first | ((with_reducible refine gate_callee (f := 25) rfl ?_); refine goesL_ (some 44) rfl rfl Try.func25 (by kernel_rfl) rfl #[.slice Ao41 t377.length co41, .int .i64 x8_2] rfl (by (try simp only [List.map_toArray, List.map_cons, List.map_nil]); first | done | rfl | (simp only [List.length_drop, List.length_take]; rfl)) ?_; (with_reducible refine (laws_has.calls k2 _ _ t377 x8_2 false _ ?side1 ?side2 A20.out).mono ?_); (case side1 => repeat (first | exact (Kd.R_reads' HO_5.out).2.2 | (with_reducible refine Kd.C_alloc ?_ _) | (with_reducible refine Kd.C_drewN ?_ _) | (with_reducible refine Kd.C_drew ?_))); (case side2 => exact (Kd.R_reads' HO_5.out).2.1); rintro e w' ⟨rfl, ⟨nd, rfl⟩⟩; refine ⟨_, rfl, ?_⟩) | (go_at_call 26; (with_reducible refine (impl_HasVar.calls k2 _ _ t374 x8_2 t390 _ ?side1 ?side2 A38.out).mono ?_); (case side1 => repeat (first | exact (Kd.R_reads' HO_4.out).2.2 | (with_reducible refine Kd.C_alloc ?_ _) | (with_reducible refine Kd.C_drewN ?_ _) | (with_reducible refine Kd.C_drew ?_))); (case side2 => exact (Kd.R_reads' HO_4.out).2.1); rintro e w' ⟨rfl, ⟨nd, rfl⟩⟩) | (go_at_call 25; (with_reducible refine (laws_has.calls k2 _ _ t374 x8_2 t391 _ ?side1 ?side2 A39.out).mono ?_); (case side1 => repeat (first | exact (Kd.R_reads' HO_4.out).2.2 | (with_reducible refine Kd.C_alloc ?_ _) | (with_reducible refine Kd.C_drewN ?_ _) | (with_reducible refine Kd.C_drew ?_))); (case side2 => exact (Kd.R_reads' HO_4.out).2.1); rintro e w' ⟨rfl, ⟨nd, rfl⟩⟩) | (go_at_call 25; (with_reducible refine (laws_has.calls k2 _ _ t377 x8_2 false _ ?side1 ?side2 A20.out).mono ?_); (case side1 => repeat (first | exact (Kd.R_reads' HO_5.out).2.2 | (with_reducible refine Kd.C_alloc ?_ _) | (with_reducible refine Kd.C_drewN ?_ _) | (with_reducible refine Kd.C_drew ?_))); (case side2 => exact (Kd.R_reads' HO_5.out).2.1); rintro e w' ⟨rfl, ⟨nd, rfl⟩⟩))
                        go_roundg k2
                        case measure => have := HK1.out; have := HK2.out; omega
                        case rel => exact ⟨(wrap64 (x8_2 + 1)), (by first | rfl | (simp; done) | (simp [*]; done)), H', ⟨by have := HK1.out; have := HK2.out; omega⟩, ⟨by (with_reducible repeat (first | apply Kd.R_alloc | apply Kd.R_drewN | apply Kd.R_drew)); exact HO_4.out⟩, ⟨by (with_reducible repeat (first | apply Kd.R_alloc | apply Kd.R_drewN | apply Kd.R_drew)); exact HO_5.out⟩, ⟨by repeat (first | (with_reducible first | exact HB.out | apply below_alloc | apply pw_below_drewN | apply below_drew1) | exact HB.out)⟩⟩
                · rw [if_neg c19] at H
                  have c19b0 : decide (x8_2 < 8) = false := decide_eq_false c19
                  clear c19
                  obtain rfl := Option.some.inj H
                  go_wp2
                  go_ret
                  exact ⟨by first | rfl | (simp [errW_none, errW_some] <;> rfl) | (simp [*, errW_none, errW_some] <;> rfl), by repeat (first | (with_reducible first | exact HB.out | apply below_alloc | apply pw_below_drewN | apply below_drew1) | exact HB.out)⟩
    · rw [if_neg c8] at H
      have c8b0 : ((t374.length : Int) == (t380.length : Int)) = false := beq_eq_false_iff_ne.mpr c8
      have c8b1 : ((t374.length : Int) != (t380.length : Int)) = true := bne_iff_ne.mpr c8
      have c8b2 : (t374.length == t380.length) = false := by first | simpa using c8 | (simp at c8 ⊢; omega)
      exact absurd ((Option.some.inj H).trans ht_) (by decide)

/-- THE ONE PURE STATEMENT of laws_FnMustWrite: yours. -/
def laws_FnMustWrite.Pure : Prop := ∀ (l0 : List Int), l0.length ≤ maxLen → l0.length * 1 ≤ 140737488351232 → (∀ x ∈ l0, (Lit.int .u8 x).wf = true) → ∃ k, laws_FnMustWrite.f k l0 = some true
theorem laws_FnMustWrite.walk (P : laws_FnMustWrite.Pure) (a0 : Option Addr) (len0 cap0 : Nat) (z0 : List Int) (w : World) (w0 : (a0 = none ∧ len0 = 0 ∧ cap0 = 0 ∧ z0 = []) ∨ ∃ x, a0 = some x ∧ len0 ≤ cap0 ∧ cap0 ≤ maxLen ∧ z0.length = cap0 ∧ (∀ i, i < z0.length → w.cell? (x.add i) = some (.int .u8 (z0.getD i 0))) ∧ ∀ n ∈ z0, (Lit.int .u8 n).wf = true) (y0 : len0 * 1 ≤ 140737488351232) :
    Calls Try.prog 5 #[.slice a0 len0 cap0] w fun e w' => e = .returned (.bool true) ∧ Below w.heap.size w w' := by
  obtain ⟨l0, rfl, hr0, hm0, hw0, hc0⟩ := ReadsInt.ofRowC w0
  obtain ⟨k, h⟩ := P l0 hm0 y0 hw0
  refine (laws_FnMustWrite.calls k _ _ l0 true w (Kd.C_of_reads (d := (0 : Int)) (h1 := fun _ => rfl) hr0) hc0 h rfl).mono ?_
  rintro e w' ⟨rfl, hd⟩
  exact ⟨rfl, hd⟩

end Go.Proofs.Ytlhcofkandeepaa.PFnMustWrite
