/- Walks of the functions that a statement reaches, written by a program (the printing program, mended): no condition. -/
import Derived.Test.YtakdgpoiihjjlaaPFnArithmeticx0
import Derived.Test.YtakdgpoiihjjlaaPFnArithmeticx1
namespace Go.Proofs.Ytakdgpoiihjjlaa.PFnArithmetic
open Go.RowKit Go.Proofs.YtakdgpoiihjjlaaW.PrintWords Go.Proofs.YtakdgpoiihjjlaaW.PrintLast Go.Proofs.YtakdgpoiihjjlaaW.PrintMore
attribute [local go_sem] max2_int min2_int max_two min_two max_three min_three max_four min_four   -- for this text's walks alone
set_option linter.unusedVariables false
set_option linter.unusedSimpArgs false

/-! ### laws_FnArithmetic: function 17 -/
def laws_FnArithmetic.j0 : Nat → List Int → Int → Int → Int → Bool → Option (Bool)
  | 0, _, _, _, _, _ => none
  | k + 1, x0, x5, x6, x7, x46 => if x46 = true then (some false) else ((spec_DrawPlaces.f k x0).bind fun t182 => (if 0 < (t182.length : Int) then (if 1 < (t182.length : Int) then ((impl_IsValue.f x5).bind fun t187 => (if t187 = true then ((impl_IsValue.f x6).bind fun t188 => (if t188 = true then ((impl_IsValue.f x7).bind fun t189 => (if t189 = true then ((impl_AddValues.f (wrap64 ((rd t182 0) - 5000)) (wrap64 ((rd t182 1) - 5000))).bind fun t190 => ((impl_SubValues.f t190 (wrap64 ((rd t182 1) - 5000))).bind fun t191 => (if t191 = (wrap64 ((rd t182 0) - 5000)) then ((impl_MulValues.f (wrap64 ((rd t182 0) - 5000)) (Int.tmod (wrap64 ((rd t182 1) - 5000)) 100)).bind fun t192 => (some (t192 == (wrap64 ((wrap64 ((rd t182 0) - 5000)) * (Int.tmod (wrap64 ((rd t182 1) - 5000)) 100)))))) else (some false)))) else (some false))) else (some false))) else (some false))) else (none)) else (none)))
def laws_FnArithmetic.f (k : Nat) (l0 : List Int) : Option (Bool) := (laws_big.f l0).bind fun t173 => (if t173 = true then (some true) else ((spec_DrawAddValues.f k l0).bind fun bt174 => ((impl_AddValues.f bt174.1 bt174.2).bind fun t176 => ((impl_SubValues.f bt174.1 bt174.2).bind fun t177 => ((impl_MulValues.f bt174.1 bt174.2).bind fun t178 => ((impl_AddValues.f bt174.2 bt174.1).bind fun t179 => (if t176 = t179 then ((impl_MulValues.f bt174.2 bt174.1).bind fun t180 => (if t178 = t180 then ((impl_SubValues.f bt174.2 bt174.1).bind fun t181 => (laws_FnArithmetic.j0 k l0 t176 t177 t178 (t177 != (wrap64 (-t181))))) else (laws_FnArithmetic.j0 k l0 t176 t177 t178 true))) else (laws_FnArithmetic.j0 k l0 t176 t177 t178 true))))))))
theorem laws_FnArithmetic.mono_l : ∀ k, (∀ y0 y1 y2 y3 y4, LeO (laws_FnArithmetic.j0 k y0 y1 y2 y3 y4) (laws_FnArithmetic.j0 (k + 1) y0 y1 y2 y3 y4))
  | 0 => fun _ _ _ _ _ r h => by simp [laws_FnArithmetic.j0] at h
  | k + 1 => by
    have ih0 := laws_FnArithmetic.mono_l k
    · intro y0 y1 y2 y3 y4
      unfold laws_FnArithmetic.j0
      repeat' first
      | (with_reducible exact ih0 _ _ _ _ _)
      | (with_reducible exact spec_DrawAddValues.mono _ _)
      | (with_reducible exact spec_DrawPlaces.mono _ _)
      | (with_reducible exact LeO.refl _)
      | (with_reducible exact LeO.none _)
      | (with_reducible refine LeO.ite ?_ ?_)
      | (with_reducible refine LeO.bind ?_ (fun _ => ?_))
      | exact ih0 _ _ _ _ _
      | exact spec_DrawAddValues.mono _ _
      | exact spec_DrawPlaces.mono _ _
      | exact LeO.none _
      | refine LeO.ite ?_ ?_
      | refine LeO.bind ?_ (fun _ => ?_)
theorem laws_FnArithmetic.mono : ∀ a0 k, LeO (laws_FnArithmetic.f k a0) (laws_FnArithmetic.f (k + 1) a0) := by
  intro a0 k
  have ih0 := laws_FnArithmetic.mono_l k
  unfold laws_FnArithmetic.f
  repeat' first
      | (with_reducible exact ih0 _ _ _ _ _)
      | (with_reducible exact spec_DrawAddValues.mono _ _)
      | (with_reducible exact spec_DrawPlaces.mono _ _)
      | (with_reducible exact LeO.refl _)
      | (with_reducible exact LeO.none _)
      | (with_reducible refine LeO.ite ?_ ?_)
      | (with_reducible refine LeO.bind ?_ (fun _ => ?_))
      | exact ih0 _ _ _ _ _
      | exact spec_DrawAddValues.mono _ _
      | exact spec_DrawPlaces.mono _ _
      | exact LeO.none _
      | refine LeO.ite ?_ ?_
      | refine LeO.bind ?_ (fun _ => ?_)
set_option maxHeartbeats 8000000 in
set_option maxRecDepth 100000 in
theorem laws_FnArithmetic.calls (k : Nat) (A0 : Option Addr) (c0 : Nat) (l0 : List Int) (r : Bool) (w : World) (hr0 : Kd.C (Kd.int .u8) w A0 l0.length l0) (hc0 : l0.length ≤ c0) (h : laws_FnArithmetic.f k l0 = some r) :
    Calls Try.prog 17 #[.slice A0 l0.length c0] w fun e w' => e = .returned (.bool r) ∧ Below w.heap.size w w' := by
  have HR0 := Aside0.mk hr0
  have HC0 := Aside0.mk hc0
  clear hr0 hc0
  have HB := Aside0.mk (Below.refl w.heap.size w)
  have H : ((laws_big.f l0).bind fun t173 => (if t173 = true then (some true) else ((spec_DrawAddValues.f k l0).bind fun bt174 => ((impl_AddValues.f bt174.1 bt174.2).bind fun t176 => ((impl_SubValues.f bt174.1 bt174.2).bind fun t177 => ((impl_MulValues.f bt174.1 bt174.2).bind fun t178 => ((impl_AddValues.f bt174.2 bt174.1).bind fun t179 => (if t176 = t179 then ((impl_MulValues.f bt174.2 bt174.1).bind fun t180 => (if t178 = t180 then ((impl_SubValues.f bt174.2 bt174.1).bind fun t181 => (laws_FnArithmetic.j0 k l0 t176 t177 t178 (t177 != (wrap64 (-t181))))) else (laws_FnArithmetic.j0 k l0 t176 t177 t178 true))) else (laws_FnArithmetic.j0 k l0 t176 t177 t178 true))))))))) = some r := h
  clear h
  replace H := Option.bind_eq_some_iff.mp H
  obtain ⟨t173, A20, H⟩ := H
  replace H : (if t173 = true then (some true) else ((spec_DrawAddValues.f k l0).bind fun bt174 => ((impl_AddValues.f bt174.1 bt174.2).bind fun t176 => ((impl_SubValues.f bt174.1 bt174.2).bind fun t177 => ((impl_MulValues.f bt174.1 bt174.2).bind fun t178 => ((impl_AddValues.f bt174.2 bt174.1).bind fun t179 => (if t176 = t179 then ((impl_MulValues.f bt174.2 bt174.1).bind fun t180 => (if t178 = t180 then ((impl_SubValues.f bt174.2 bt174.1).bind fun t181 => (laws_FnArithmetic.j0 k l0 t176 t177 t178 (t177 != (wrap64 (-t181))))) else (laws_FnArithmetic.j0 k l0 t176 t177 t178 true))) else (laws_FnArithmetic.j0 k l0 t176 t177 t178 true)))))))) = some r := H
  have A2 := Aside0.mk A20
  clear A20
  by_cases c3 : t173 = true
  · subst c3
    have H1 : (some true) = some r := by rw [if_pos rfl] at H; exact H
    clear H
    have H := H1
    clear H1
    obtain rfl := Option.some.inj H
    go_enter Try.func17, Try.ntmps17
    go_wp2_with (first | ((with_reducible refine gate_callee (f := 40) rfl ?_); refine goesL_ (some 12) rfl rfl Try.func40 (by kernel_rfl) rfl #[.slice A0 l0.length c0] rfl (by (try simp only [List.map_toArray, List.map_cons, List.map_nil]); first | done | rfl | (simp only [List.length_drop, List.length_take]; rfl)) ?_; (with_reducible refine (laws_big.calls _ _ l0 true _ ?side1 ?side2 A2.out).mono ?_); (case side1 => repeat (first | exact HR0.out | (with_reducible refine Kd.C_alloc ?_ _) | (with_reducible refine Kd.C_drewN ?_ _) | (with_reducible refine Kd.C_drew ?_))); (case side2 => exact HC0.out); rintro e w' ⟨rfl, ⟨nd, rfl⟩⟩; refine ⟨_, rfl, ?_⟩))
    go_ret
    exact ⟨by first | rfl | (simp [errW_none, errW_some] <;> rfl) | (simp [*, errW_none, errW_some] <;> rfl), by repeat (first | (with_reducible first | exact HB.out | apply below_alloc | apply pw_below_drewN | apply below_drew1) | exact HB.out)⟩
  · replace c3 := Bool.eq_false_iff.mpr c3
    subst c3
    have H1 : ((spec_DrawAddValues.f k l0).bind fun bt174 => ((impl_AddValues.f bt174.1 bt174.2).bind fun t176 => ((impl_SubValues.f bt174.1 bt174.2).bind fun t177 => ((impl_MulValues.f bt174.1 bt174.2).bind fun t178 => ((impl_AddValues.f bt174.2 bt174.1).bind fun t179 => (if t176 = t179 then ((impl_MulValues.f bt174.2 bt174.1).bind fun t180 => (if t178 = t180 then ((impl_SubValues.f bt174.2 bt174.1).bind fun t181 => (laws_FnArithmetic.j0 k l0 t176 t177 t178 (t177 != (wrap64 (-t181))))) else (laws_FnArithmetic.j0 k l0 t176 t177 t178 true))) else (laws_FnArithmetic.j0 k l0 t176 t177 t178 true))))))) = some r := by rw [if_neg (show ¬ (false = true) by decide)] at H; exact H
    clear H
    have H := H1
    clear H1
    replace H := Option.bind_eq_some_iff.mp H
    obtain ⟨⟨t174, t175⟩, A40, H⟩ := H
    replace H : ((impl_AddValues.f t174 t175).bind fun t176 => ((impl_SubValues.f t174 t175).bind fun t177 => ((impl_MulValues.f t174 t175).bind fun t178 => ((impl_AddValues.f t175 t174).bind fun t179 => (if t176 = t179 then ((impl_MulValues.f t175 t174).bind fun t180 => (if t178 = t180 then ((impl_SubValues.f t175 t174).bind fun t181 => (laws_FnArithmetic.j0 k l0 t176 t177 t178 (t177 != (wrap64 (-t181))))) else (laws_FnArithmetic.j0 k l0 t176 t177 t178 true))) else (laws_FnArithmetic.j0 k l0 t176 t177 t178 true)))))) = some r := H
    have A4 := Aside0.mk A40
    clear A40
    replace H := Option.bind_eq_some_iff.mp H
    obtain ⟨t176, A50, H⟩ := H
    replace H : ((impl_SubValues.f t174 t175).bind fun t177 => ((impl_MulValues.f t174 t175).bind fun t178 => ((impl_AddValues.f t175 t174).bind fun t179 => (if t176 = t179 then ((impl_MulValues.f t175 t174).bind fun t180 => (if t178 = t180 then ((impl_SubValues.f t175 t174).bind fun t181 => (laws_FnArithmetic.j0 k l0 t176 t177 t178 (t177 != (wrap64 (-t181))))) else (laws_FnArithmetic.j0 k l0 t176 t177 t178 true))) else (laws_FnArithmetic.j0 k l0 t176 t177 t178 true))))) = some r := H
    have A5 := Aside0.mk A50
    clear A50
    replace H := Option.bind_eq_some_iff.mp H
    obtain ⟨t177, A60, H⟩ := H
    replace H : ((impl_MulValues.f t174 t175).bind fun t178 => ((impl_AddValues.f t175 t174).bind fun t179 => (if t176 = t179 then ((impl_MulValues.f t175 t174).bind fun t180 => (if t178 = t180 then ((impl_SubValues.f t175 t174).bind fun t181 => (laws_FnArithmetic.j0 k l0 t176 t177 t178 (t177 != (wrap64 (-t181))))) else (laws_FnArithmetic.j0 k l0 t176 t177 t178 true))) else (laws_FnArithmetic.j0 k l0 t176 t177 t178 true)))) = some r := H
    have A6 := Aside0.mk A60
    clear A60
    replace H := Option.bind_eq_some_iff.mp H
    obtain ⟨t178, A70, H⟩ := H
    replace H : ((impl_AddValues.f t175 t174).bind fun t179 => (if t176 = t179 then ((impl_MulValues.f t175 t174).bind fun t180 => (if t178 = t180 then ((impl_SubValues.f t175 t174).bind fun t181 => (laws_FnArithmetic.j0 k l0 t176 t177 t178 (t177 != (wrap64 (-t181))))) else (laws_FnArithmetic.j0 k l0 t176 t177 t178 true))) else (laws_FnArithmetic.j0 k l0 t176 t177 t178 true))) = some r := H
    have A7 := Aside0.mk A70
    clear A70
    have HC8 := Aside0.mk H
    clear H
    go_enter Try.func17, Try.ntmps17
    go_upto_region 7 with (first | ((with_reducible refine gate_callee (f := 40) rfl ?_); refine goesL_ (some 12) rfl rfl Try.func40 (by kernel_rfl) rfl #[.slice A0 l0.length c0] rfl (by (try simp only [List.map_toArray, List.map_cons, List.map_nil]); first | done | rfl | (simp only [List.length_drop, List.length_take]; rfl)) ?_; (with_reducible refine (laws_big.calls _ _ l0 false _ ?side1 ?side2 A2.out).mono ?_); (case side1 => repeat (first | exact HR0.out | (with_reducible refine Kd.C_alloc ?_ _) | (with_reducible refine Kd.C_drewN ?_ _) | (with_reducible refine Kd.C_drew ?_))); (case side2 => exact HC0.out); rintro e w' ⟨rfl, ⟨nd, rfl⟩⟩; refine ⟨_, rfl, ?_⟩) | ((with_reducible refine gate_callee (f := 45) rfl ?_); refine goesL_ (some 15) rfl rfl Try.func45 (by kernel_rfl) rfl #[.slice A0 l0.length c0] rfl (by (try simp only [List.map_toArray, List.map_cons, List.map_nil]); first | done | rfl | (simp only [List.length_drop, List.length_take]; rfl)) ?_; (with_reducible refine (spec_DrawAddValues.calls k _ _ l0 t174 t175 _ ?side1 ?side2 A4.out).mono ?_); (case side1 => repeat (first | exact HR0.out | (with_reducible refine Kd.C_alloc ?_ _) | (with_reducible refine Kd.C_drewN ?_ _) | (with_reducible refine Kd.C_drew ?_))); (case side2 => exact HC0.out); rintro e w9 ⟨rfl, hb⟩; refine ⟨_, rfl, ?_⟩; have n0_ := Aside0.mk (below_step (by repeat (first | (with_reducible first | exact HB.out | apply below_alloc | apply pw_below_drewN | apply below_drew1) | exact HB.out)) hb); clear HB; have HB := n0_; clear n0_; (try clear hb); (try clear hb2); (try clear hk); (try clear hi)) | ((with_reducible refine gate_callee (f := 33) rfl ?_); refine goesL_ (some 20) rfl rfl Try.func33 (by kernel_rfl) rfl #[.int .i64 t174, .int .i64 t175] rfl (by (try simp only [List.map_toArray, List.map_cons, List.map_nil]); first | done | rfl | (simp only [List.length_drop, List.length_take]; rfl)) ?_; (with_reducible refine (impl_AddValues.calls t174 t175 t176 _ A5.out).mono ?_); rintro e w10 ⟨rfl, hb⟩; refine ⟨_, rfl, ?_⟩; have n0_ := Aside0.mk (below_step (by repeat (first | (with_reducible first | exact HB.out | apply below_alloc | apply pw_below_drewN | apply below_drew1) | exact HB.out)) hb); clear HB; have HB := n0_; clear n0_; (try clear hb); (try clear hb2); (try clear hk); (try clear hi)) | ((with_reducible refine gate_callee (f := 37) rfl ?_); refine goesL_ (some 23) rfl rfl Try.func37 (by kernel_rfl) rfl #[.int .i64 t174, .int .i64 t175] rfl (by (try simp only [List.map_toArray, List.map_cons, List.map_nil]); first | done | rfl | (simp only [List.length_drop, List.length_take]; rfl)) ?_; (with_reducible refine (impl_SubValues.calls t174 t175 t177 _ A6.out).mono ?_); rintro e w11 ⟨rfl, hb⟩; refine ⟨_, rfl, ?_⟩; have n0_ := Aside0.mk (below_step (by repeat (first | (with_reducible first | exact HB.out | apply below_alloc | apply pw_below_drewN | apply below_drew1) | exact HB.out)) hb); clear HB; have HB := n0_; clear n0_; (try clear hb); (try clear hb2); (try clear hk); (try clear hi)) | ((with_reducible refine gate_callee (f := 35) rfl ?_); refine goesL_ (some 26) rfl rfl Try.func35 (by kernel_rfl) rfl #[.int .i64 t174, .int .i64 t175] rfl (by (try simp only [List.map_toArray, List.map_cons, List.map_nil]); first | done | rfl | (simp only [List.length_drop, List.length_take]; rfl)) ?_; (with_reducible refine (impl_MulValues.calls t174 t175 t178 _ A7.out).mono ?_); rintro e w12 ⟨rfl, hb⟩; refine ⟨_, rfl, ?_⟩; have n0_ := Aside0.mk (below_step (by repeat (first | (with_reducible first | exact HB.out | apply below_alloc | apply pw_below_drewN | apply below_drew1) | exact HB.out)) hb); clear HB; have HB := n0_; clear n0_; (try clear hb); (try clear hb2); (try clear hk); (try clear hi)))
    (try simp only [Act.put, List.setIfInBounds_toArray, List.set_cons_zero, List.set_cons_succ])
    go_cut [46] (fun v46 wc => ∃ (kq : Nat) (x46_7 : Bool), v46 = .bool x46_7 ∧ Aside0 (laws_FnArithmetic.j0 kq l0 t176 t177 t178 x46_7 = some r) ∧ Aside0 (kq ≤ k) ∧ Aside0 (Below w.heap.size w wc))
    case first =>
      have H := HC8.out
      clear HC8
      replace H := Option.bind_eq_some_iff.mp H
      obtain ⟨t179, A130, H⟩ := H
      replace H : (if t176 = t179 then ((impl_MulValues.f t175 t174).bind fun t180 => (if t178 = t180 then ((impl_SubValues.f t175 t174).bind fun t181 => (laws_FnArithmetic.j0 k l0 t176 t177 t178 (t177 != (wrap64 (-t181))))) else (laws_FnArithmetic.j0 k l0 t176 t177 t178 true))) else (laws_FnArithmetic.j0 k l0 t176 t177 t178 true)) = some r := H
      have A13 := Aside0.mk A130
      clear A130
      by_cases c14 : t176 = t179
      · rw [if_pos c14] at H
        have c14b0 : (t176 == t179) = true := beq_iff_eq.mpr c14
        have c14b1 : (t176 != t179) = false := bne_eq_false_iff_eq.mpr c14
        clear c14
        (first | rw [c14b0] | (simp only [i64_w, i32_w]; rw [c14b0]) | skip)
        replace H := Option.bind_eq_some_iff.mp H
        obtain ⟨t180, A150, H⟩ := H
        replace H : (if t178 = t180 then ((impl_SubValues.f t175 t174).bind fun t181 => (laws_FnArithmetic.j0 k l0 t176 t177 t178 (t177 != (wrap64 (-t181))))) else (laws_FnArithmetic.j0 k l0 t176 t177 t178 true)) = some r := H
        have A15 := Aside0.mk A150
        clear A150
        by_cases c16 : t178 = t180
        · rw [if_pos c16] at H
          have c16b0 : (t178 == t180) = true := beq_iff_eq.mpr c16
          have c16b1 : (t178 != t180) = false := bne_eq_false_iff_eq.mpr c16
          clear c16
          replace H := Option.bind_eq_some_iff.mp H
          obtain ⟨t181, A170, H⟩ := H
          replace H : (laws_FnArithmetic.j0 k l0 t176 t177 t178 (t177 != (wrap64 (-t181)))) = some r := H
          have A17 := Aside0.mk A170
          clear A170
          have H' := Aside0.mk H
          clear H
          go_wp2_with (first | ((with_reducible refine gate_callee (f := 33) rfl ?_); refine goesL_ (some 30) rfl rfl Try.func33 (by kernel_rfl) rfl #[.int .i64 t175, .int .i64 t174] rfl (by (try simp only [List.map_toArray, List.map_cons, List.map_nil]); first | done | rfl | (simp only [List.length_drop, List.length_take]; rfl)) ?_; (with_reducible refine (impl_AddValues.calls t175 t174 t179 _ A13.out).mono ?_); rintro e w18 ⟨rfl, hb⟩; refine ⟨_, rfl, ?_⟩; have n0_ := Aside0.mk (below_step (by repeat (first | (with_reducible first | exact HB.out | apply below_alloc | apply pw_below_drewN | apply below_drew1) | exact HB.out)) hb); clear HB; have HB := n0_; clear n0_; (try clear hb); (try clear hb2); (try clear hk); (try clear hi)) | (go_at_call 35; (with_reducible refine (impl_MulValues.calls t175 t174 t180 _ A15.out).mono ?_); rintro e w19 ⟨rfl, hb⟩; have n0_ := Aside0.mk (below_step (by repeat (first | (with_reducible first | exact HB.out | apply below_alloc | apply pw_below_drewN | apply below_drew1) | exact HB.out)) hb); clear HB; have HB := n0_; clear n0_; (try clear hb); (try clear hb2); (try clear hk); (try clear hi)) | (go_at_call 37; (with_reducible refine (impl_SubValues.calls t175 t174 t181 _ A17.out).mono ?_); rintro e w20 ⟨rfl, hb⟩; have n0_ := Aside0.mk (below_step (by repeat (first | (with_reducible first | exact HB.out | apply below_alloc | apply pw_below_drewN | apply below_drew1) | exact HB.out)) hb); clear HB; have HB := n0_; clear n0_; (try clear hb); (try clear hb2); (try clear hk); (try clear hi)))
          go_meet
          case rel => exact ⟨_, ((t177 != (wrap64 (-t181)))), (by first | rfl | (simp; done) | (simp [*]; done)), H', ⟨by first | omega | exact Nat.le_refl _⟩, ⟨by repeat (first | (with_reducible first | exact HB.out | apply below_alloc | apply pw_below_drewN | apply below_drew1) | exact HB.out)⟩⟩
        · rw [if_neg c16] at H
          have c16b0 : (t178 == t180) = false := beq_eq_false_iff_ne.mpr c16
          have c16b1 : (t178 != t180) = true := bne_iff_ne.mpr c16
          have H' := Aside0.mk H
          clear H
          go_wp2_with (first | ((with_reducible refine gate_callee (f := 33) rfl ?_); refine goesL_ (some 30) rfl rfl Try.func33 (by kernel_rfl) rfl #[.int .i64 t175, .int .i64 t174] rfl (by (try simp only [List.map_toArray, List.map_cons, List.map_nil]); first | done | rfl | (simp only [List.length_drop, List.length_take]; rfl)) ?_; (with_reducible refine (impl_AddValues.calls t175 t174 t179 _ A13.out).mono ?_); rintro e w21 ⟨rfl, hb⟩; refine ⟨_, rfl, ?_⟩; have n0_ := Aside0.mk (below_step (by repeat (first | (with_reducible first | exact HB.out | apply below_alloc | apply pw_below_drewN | apply below_drew1) | exact HB.out)) hb); clear HB; have HB := n0_; clear n0_; (try clear hb); (try clear hb2); (try clear hk); (try clear hi)) | (go_at_call 35; (with_reducible refine (impl_MulValues.calls t175 t174 t180 _ A15.out).mono ?_); rintro e w22 ⟨rfl, hb⟩; have n0_ := Aside0.mk (below_step (by repeat (first | (with_reducible first | exact HB.out | apply below_alloc | apply pw_below_drewN | apply below_drew1) | exact HB.out)) hb); clear HB; have HB := n0_; clear n0_; (try clear hb); (try clear hb2); (try clear hk); (try clear hi)))
          go_meet
          case rel => exact ⟨_, (true), (by first | rfl | (simp; done) | (simp [*]; done)), H', ⟨by first | omega | exact Nat.le_refl _⟩, ⟨by repeat (first | (with_reducible first | exact HB.out | apply below_alloc | apply pw_below_drewN | apply below_drew1) | exact HB.out)⟩⟩
      · rw [if_neg c14] at H
        have c14b0 : (t176 == t179) = false := beq_eq_false_iff_ne.mpr c14
        have c14b1 : (t176 != t179) = true := bne_iff_ne.mpr c14
        (first | rw [c14b0] | (simp only [i64_w, i32_w]; rw [c14b0]) | skip)
        have H' := Aside0.mk H
        clear H
        go_wp2_with (first | ((with_reducible refine gate_callee (f := 33) rfl ?_); refine goesL_ (some 30) rfl rfl Try.func33 (by kernel_rfl) rfl #[.int .i64 t175, .int .i64 t174] rfl (by (try simp only [List.map_toArray, List.map_cons, List.map_nil]); first | done | rfl | (simp only [List.length_drop, List.length_take]; rfl)) ?_; (with_reducible refine (impl_AddValues.calls t175 t174 t179 _ A13.out).mono ?_); rintro e w23 ⟨rfl, hb⟩; refine ⟨_, rfl, ?_⟩; have n0_ := Aside0.mk (below_step (by repeat (first | (with_reducible first | exact HB.out | apply below_alloc | apply pw_below_drewN | apply below_drew1) | exact HB.out)) hb); clear HB; have HB := n0_; clear n0_; (try clear hb); (try clear hb2); (try clear hk); (try clear hi)))
        go_meet
        case rel => exact ⟨_, (true), (by first | rfl | (simp; done) | (simp [*]; done)), H', ⟨by first | omega | exact Nat.le_refl _⟩, ⟨by repeat (first | (with_reducible first | exact HB.out | apply below_alloc | apply pw_below_drewN | apply below_drew1) | exact HB.out)⟩⟩
    case rest =>
      clear HC8
      try clear c1
      try clear p2
      try clear c3
      try clear c4
      try clear p6
      try clear c14
      try clear c14b0
      try clear c14b1
      try clear c16
      try clear c16b0
      try clear c16b1
      try clear c17
      obtain ⟨kq, x46_7, rfl, HA, HJ7, HB⟩ := hcut
      cases kq with
      | zero => exact absurd HA.out (by simp [laws_FnArithmetic.j0])
      | succ kj7 =>
        have H := HA.out
        clear HA
        simp only [laws_FnArithmetic.j0] at H
        by_cases c24 : x46_7 = true
        · subst c24
          have H1 : (some false) = some r := by rw [if_pos rfl] at H; exact H
          clear H
          have H := H1
          clear H1
          obtain rfl := Option.some.inj H
          go_wp2
          go_ret
          exact ⟨by first | rfl | (simp [errW_none, errW_some] <;> rfl) | (simp [*, errW_none, errW_some] <;> rfl), by repeat (first | (with_reducible first | exact HB.out | apply below_alloc | apply pw_below_drewN | apply below_drew1) | exact HB.out)⟩
        · replace c24 := Bool.eq_false_iff.mpr c24
          subst c24
          have H1 : ((spec_DrawPlaces.f kj7 l0).bind fun t182 => (if 0 < (t182.length : Int) then (if 1 < (t182.length : Int) then ((impl_IsValue.f t176).bind fun t187 => (if t187 = true then ((impl_IsValue.f t177).bind fun t188 => (if t188 = true then ((impl_IsValue.f t178).bind fun t189 => (if t189 = true then ((impl_AddValues.f (wrap64 ((rd t182 0) - 5000)) (wrap64 ((rd t182 1) - 5000))).bind fun t190 => ((impl_SubValues.f t190 (wrap64 ((rd t182 1) - 5000))).bind fun t191 => (if t191 = (wrap64 ((rd t182 0) - 5000)) then ((impl_MulValues.f (wrap64 ((rd t182 0) - 5000)) (Int.tmod (wrap64 ((rd t182 1) - 5000)) 100)).bind fun t192 => (some (t192 == (wrap64 ((wrap64 ((rd t182 0) - 5000)) * (Int.tmod (wrap64 ((rd t182 1) - 5000)) 100)))))) else (some false)))) else (some false))) else (some false))) else (some false))) else (none)) else (none))) = some r := by rw [if_neg (show ¬ (false = true) by decide)] at H; exact H
          clear H
          have H := H1
          clear H1
          replace H := Option.bind_eq_some_iff.mp H
          obtain ⟨t182, A250, H⟩ := H
          replace H : (if 0 < (t182.length : Int) then (if 1 < (t182.length : Int) then ((impl_IsValue.f t176).bind fun t187 => (if t187 = true then ((impl_IsValue.f t177).bind fun t188 => (if t188 = true then ((impl_IsValue.f t178).bind fun t189 => (if t189 = true then ((impl_AddValues.f (wrap64 ((rd t182 0) - 5000)) (wrap64 ((rd t182 1) - 5000))).bind fun t190 => ((impl_SubValues.f t190 (wrap64 ((rd t182 1) - 5000))).bind fun t191 => (if t191 = (wrap64 ((rd t182 0) - 5000)) then ((impl_MulValues.f (wrap64 ((rd t182 0) - 5000)) (Int.tmod (wrap64 ((rd t182 1) - 5000)) 100)).bind fun t192 => (some (t192 == (wrap64 ((wrap64 ((rd t182 0) - 5000)) * (Int.tmod (wrap64 ((rd t182 1) - 5000)) 100)))))) else (some false)))) else (some false))) else (some false))) else (some false))) else (none)) else (none)) = some r := H
          have A25 := Aside0.mk A250
          clear A250
          by_cases c26 : 0 < (t182.length : Int)
          · rw [if_pos c26] at H
            have c26b0 : decide (0 < (t182.length : Int)) = true := decide_eq_true c26
            have c26b1 : decide (0 < t182.length) = true := decide_eq_true (by omega)
            clear c26
            by_cases c27 : 1 < (t182.length : Int)
            · rw [if_pos c27] at H
              have c27b0 : decide (1 < (t182.length : Int)) = true := decide_eq_true c27
              have c27b1 : decide (1 < t182.length) = true := decide_eq_true (by omega)
              clear c27
              replace H := Option.bind_eq_some_iff.mp H
              obtain ⟨t187, A280, H⟩ := H
              replace H : (if t187 = true then ((impl_IsValue.f t177).bind fun t188 => (if t188 = true then ((impl_IsValue.f t178).bind fun t189 => (if t189 = true then ((impl_AddValues.f (wrap64 ((rd t182 0) - 5000)) (wrap64 ((rd t182 1) - 5000))).bind fun t190 => ((impl_SubValues.f t190 (wrap64 ((rd t182 1) - 5000))).bind fun t191 => (if t191 = (wrap64 ((rd t182 0) - 5000)) then ((impl_MulValues.f (wrap64 ((rd t182 0) - 5000)) (Int.tmod (wrap64 ((rd t182 1) - 5000)) 100)).bind fun t192 => (some (t192 == (wrap64 ((wrap64 ((rd t182 0) - 5000)) * (Int.tmod (wrap64 ((rd t182 1) - 5000)) 100)))))) else (some false)))) else (some false))) else (some false))) else (some false)) = some r := H
              have A28 := Aside0.mk A280
              clear A280
              by_cases c29 : t187 = true
              · subst c29
                have H1 : ((impl_IsValue.f t177).bind fun t188 => (if t188 = true then ((impl_IsValue.f t178).bind fun t189 => (if t189 = true then ((impl_AddValues.f (wrap64 ((rd t182 0) - 5000)) (wrap64 ((rd t182 1) - 5000))).bind fun t190 => ((impl_SubValues.f t190 (wrap64 ((rd t182 1) - 5000))).bind fun t191 => (if t191 = (wrap64 ((rd t182 0) - 5000)) then ((impl_MulValues.f (wrap64 ((rd t182 0) - 5000)) (Int.tmod (wrap64 ((rd t182 1) - 5000)) 100)).bind fun t192 => (some (t192 == (wrap64 ((wrap64 ((rd t182 0) - 5000)) * (Int.tmod (wrap64 ((rd t182 1) - 5000)) 100)))))) else (some false)))) else (some false))) else (some false))) = some r := by rw [if_pos rfl] at H; exact H
                clear H
                have H := H1
                clear H1
                replace H := Option.bind_eq_some_iff.mp H
                obtain ⟨t188, A300, H⟩ := H
                replace H : (if t188 = true then ((impl_IsValue.f t178).bind fun t189 => (if t189 = true then ((impl_AddValues.f (wrap64 ((rd t182 0) - 5000)) (wrap64 ((rd t182 1) - 5000))).bind fun t190 => ((impl_SubValues.f t190 (wrap64 ((rd t182 1) - 5000))).bind fun t191 => (if t191 = (wrap64 ((rd t182 0) - 5000)) then ((impl_MulValues.f (wrap64 ((rd t182 0) - 5000)) (Int.tmod (wrap64 ((rd t182 1) - 5000)) 100)).bind fun t192 => (some (t192 == (wrap64 ((wrap64 ((rd t182 0) - 5000)) * (Int.tmod (wrap64 ((rd t182 1) - 5000)) 100)))))) else (some false)))) else (some false))) else (some false)) = some r := H
                have A30 := Aside0.mk A300
                clear A300
                by_cases c31 : t188 = true
                · subst c31
                  have H1 : ((impl_IsValue.f t178).bind fun t189 => (if t189 = true then ((impl_AddValues.f (wrap64 ((rd t182 0) - 5000)) (wrap64 ((rd t182 1) - 5000))).bind fun t190 => ((impl_SubValues.f t190 (wrap64 ((rd t182 1) - 5000))).bind fun t191 => (if t191 = (wrap64 ((rd t182 0) - 5000)) then ((impl_MulValues.f (wrap64 ((rd t182 0) - 5000)) (Int.tmod (wrap64 ((rd t182 1) - 5000)) 100)).bind fun t192 => (some (t192 == (wrap64 ((wrap64 ((rd t182 0) - 5000)) * (Int.tmod (wrap64 ((rd t182 1) - 5000)) 100)))))) else (some false)))) else (some false))) = some r := by rw [if_pos rfl] at H; exact H
                  clear H
                  have H := H1
                  clear H1
                  replace H := Option.bind_eq_some_iff.mp H
                  obtain ⟨t189, A320, H⟩ := H
                  replace H : (if t189 = true then ((impl_AddValues.f (wrap64 ((rd t182 0) - 5000)) (wrap64 ((rd t182 1) - 5000))).bind fun t190 => ((impl_SubValues.f t190 (wrap64 ((rd t182 1) - 5000))).bind fun t191 => (if t191 = (wrap64 ((rd t182 0) - 5000)) then ((impl_MulValues.f (wrap64 ((rd t182 0) - 5000)) (Int.tmod (wrap64 ((rd t182 1) - 5000)) 100)).bind fun t192 => (some (t192 == (wrap64 ((wrap64 ((rd t182 0) - 5000)) * (Int.tmod (wrap64 ((rd t182 1) - 5000)) 100)))))) else (some false)))) else (some false)) = some r := H
                  have A32 := Aside0.mk A320
                  clear A320
                  by_cases c33 : t189 = true
                  · subst c33
                    have H1 : ((impl_AddValues.f (wrap64 ((rd t182 0) - 5000)) (wrap64 ((rd t182 1) - 5000))).bind fun t190 => ((impl_SubValues.f t190 (wrap64 ((rd t182 1) - 5000))).bind fun t191 => (if t191 = (wrap64 ((rd t182 0) - 5000)) then ((impl_MulValues.f (wrap64 ((rd t182 0) - 5000)) (Int.tmod (wrap64 ((rd t182 1) - 5000)) 100)).bind fun t192 => (some (t192 == (wrap64 ((wrap64 ((rd t182 0) - 5000)) * (Int.tmod (wrap64 ((rd t182 1) - 5000)) 100)))))) else (some false)))) = some r := by rw [if_pos rfl] at H; exact H
                    clear H
                    have H := H1
                    clear H1
                    replace H := Option.bind_eq_some_iff.mp H
                    obtain ⟨t190, A340, H⟩ := H
                    replace H : ((impl_SubValues.f t190 (wrap64 ((rd t182 1) - 5000))).bind fun t191 => (if t191 = (wrap64 ((rd t182 0) - 5000)) then ((impl_MulValues.f (wrap64 ((rd t182 0) - 5000)) (Int.tmod (wrap64 ((rd t182 1) - 5000)) 100)).bind fun t192 => (some (t192 == (wrap64 ((wrap64 ((rd t182 0) - 5000)) * (Int.tmod (wrap64 ((rd t182 1) - 5000)) 100)))))) else (some false))) = some r := H
                    have A34 := Aside0.mk A340
                    clear A340
                    replace H := Option.bind_eq_some_iff.mp H
                    obtain ⟨t191, A350, H⟩ := H
                    replace H : (if t191 = (wrap64 ((rd t182 0) - 5000)) then ((impl_MulValues.f (wrap64 ((rd t182 0) - 5000)) (Int.tmod (wrap64 ((rd t182 1) - 5000)) 100)).bind fun t192 => (some (t192 == (wrap64 ((wrap64 ((rd t182 0) - 5000)) * (Int.tmod (wrap64 ((rd t182 1) - 5000)) 100)))))) else (some false)) = some r := H
                    have A35 := Aside0.mk A350
                    clear A350
                    by_cases c36 : t191 = (wrap64 ((rd t182 0) - 5000))
                    · rw [if_pos c36] at H
                      have c36b0 : (t191 == (wrap64 ((rd t182 0) - 5000))) = true := beq_iff_eq.mpr c36
                      have c36b1 : (t191 != (wrap64 ((rd t182 0) - 5000))) = false := bne_eq_false_iff_eq.mpr c36
                      clear c36
                      replace H := Option.bind_eq_some_iff.mp H
                      obtain ⟨t192, A370, H⟩ := H
                      replace H : (some (t192 == (wrap64 ((wrap64 ((rd t182 0) - 5000)) * (Int.tmod (wrap64 ((rd t182 1) - 5000)) 100))))) = some r := H
                      have A37 := Aside0.mk A370
                      clear A370
                      obtain rfl := Option.some.inj H
                      go_wp2_with (first | ((with_reducible refine gate_callee (f := 43) rfl ?_); refine goesL_ (some 48) rfl rfl Try.func43 (by kernel_rfl) rfl #[.slice A0 l0.length c0] rfl (by (try simp only [List.map_toArray, List.map_cons, List.map_nil]); first | done | rfl | (simp only [List.length_drop, List.length_take]; rfl)) ?_; (with_reducible refine (spec_DrawPlaces.calls kj7 _ _ l0 t182 _ ?side1 ?side2 A25.out).mono ?_); (case side1 => repeat (first | exact (Kd.C_below HR0.out HB.out) | (with_reducible refine Kd.C_alloc ?_ _) | (with_reducible refine Kd.C_drewN ?_ _) | (with_reducible refine Kd.C_drew ?_))); (case side2 => exact HC0.out); rintro e w38 ⟨v183, rfl, ho0, hb⟩; refine ⟨_, rfl, ?_⟩; have n0_ := Aside0.mk (Kd.R_lower ho0 (below_size (by repeat (first | (with_reducible first | exact HB.out | apply below_alloc | apply pw_below_drewN | apply below_drew1) | exact HB.out)))); have n1_ := Aside0.mk (below_step (by repeat (first | (with_reducible first | exact HB.out | apply below_alloc | apply pw_below_drewN | apply below_drew1) | exact HB.out)) hb); clear HB; have HO184 := n0_; have HB := n1_; clear n0_ n1_; (try clear hb); (try clear hb2); (try clear hk); (try clear hi); (try clear ho0); obtain ⟨Ao39, co39, eo39⟩ := Kd.R_slice HO184.out; subst eo39; have p185 : 0 ≤ (0 : Int) := (by omega); have q185 : 0 < (t182.length : Int) := of_decide_eq_true (by first | (with_reducible assumption) | assumption); obtain ⟨ad185, e185, hx185_0⟩ := Kd.at_int (Kd.R_reads' HO184.out).2.2 0 p185 q185; cases e185; have qi185 : (0 < t182.length) = True := eq_true (by omega); (try rw [show ((0 : Int)).toNat = 0 from rfl] at hx185_0); (try rw [Addr.add_zero'] at hx185_0); replace p185 := eq_true p185; replace q185 := eq_true q185; have p186 : 0 ≤ (1 : Int) := (by omega); have q186 : 1 < (t182.length : Int) := of_decide_eq_true (by first | (with_reducible assumption) | assumption); obtain ⟨ad186, e186, hx186_0⟩ := Kd.at_int (Kd.R_reads' HO184.out).2.2 1 p186 q186; obtain rfl : ad185 = ad186 := (by injection e186); (try simp only [show (1 : Int).toNat = 1 from rfl, Nat.reduceMul, Nat.reduceEqDiff, Go.Addr.add, ↓reduceIte] at hx186_0); have qi186 : (1 < t182.length) = True := eq_true (by omega); (try rw [show ((1 : Int)).toNat = 1 from rfl] at hx186_0); replace p186 := eq_true p186; replace q186 := eq_true q186) | ((with_reducible refine gate_callee (f := 20) rfl ?_); refine goesL_ (some 58) rfl rfl Try.func20 (by kernel_rfl) rfl #[.int .i64 t176] rfl (by (try simp only [List.map_toArray, List.map_cons, List.map_nil]); first | done | rfl | (simp only [List.length_drop, List.length_take]; rfl)) ?_; (with_reducible refine (impl_IsValue.calls t176 true _ A28.out).mono ?_); rintro e w' ⟨rfl, ⟨nd, rfl⟩⟩; refine ⟨_, rfl, ?_⟩) | (go_at_call 20; (with_reducible refine (impl_IsValue.calls t177 true _ A30.out).mono ?_); rintro e w' ⟨rfl, ⟨nd, rfl⟩⟩) | (go_at_call 20; (with_reducible refine (impl_IsValue.calls t178 true _ A32.out).mono ?_); rintro e w' ⟨rfl, ⟨nd, rfl⟩⟩) | (go_at_call 33; (with_reducible refine (impl_AddValues.calls (wrap64 ((rd t182 0) - 5000)) (wrap64 ((rd t182 1) - 5000)) t190 _ A34.out).mono ?_); rintro e w40 ⟨rfl, hb⟩; have n0_ := Aside0.mk (Kd.R_below (by (with_reducible repeat (first | apply Kd.R_alloc | apply Kd.R_drewN | apply Kd.R_drew)); exact HO184.out) hb); have n1_ := Aside0.mk (below_step (by repeat (first | (with_reducible first | exact HB.out | apply below_alloc | apply pw_below_drewN | apply below_drew1) | exact HB.out)) hb); clear HO184; clear HB; have HO184 := n0_; have HB := n1_; clear n0_ n1_; (try clear hb); (try clear hb2); (try clear hk); (try clear hi)) | (go_at_call 37; (with_reducible refine (impl_SubValues.calls t190 (wrap64 ((rd t182 1) - 5000)) t191 _ A35.out).mono ?_); rintro e w41 ⟨rfl, hb⟩; have n0_ := Aside0.mk (Kd.R_below (by (with_reducible repeat (first | apply Kd.R_alloc | apply Kd.R_drewN | apply Kd.R_drew)); exact HO184.out) hb); have n1_ := Aside0.mk (below_step (by repeat (first | (with_reducible first | exact HB.out | apply below_alloc | apply pw_below_drewN | apply below_drew1) | exact HB.out)) hb); clear HO184; clear HB; have HO184 := n0_; have HB := n1_; clear n0_ n1_; (try clear hb); (try clear hb2); (try clear hk); (try clear hi)) | (go_at_call 35; (with_reducible refine (impl_MulValues.calls (wrap64 ((rd t182 0) - 5000)) (Int.tmod (wrap64 ((rd t182 1) - 5000)) 100) t192 _ A37.out).mono ?_); rintro e w42 ⟨rfl, hb⟩; have n0_ := Aside0.mk (Kd.R_below (by (with_reducible repeat (first | apply Kd.R_alloc | apply Kd.R_drewN | apply Kd.R_drew)); exact HO184.out) hb); have n1_ := Aside0.mk (below_step (by repeat (first | (with_reducible first | exact HB.out | apply below_alloc | apply pw_below_drewN | apply below_drew1) | exact HB.out)) hb); clear HO184; clear HB; have HO184 := n0_; have HB := n1_; clear n0_ n1_; (try clear hb); (try clear hb2); (try clear hk); (try clear hi)))
                      go_ret
                      exact ⟨by first | rfl | (simp [errW_none, errW_some] <;> rfl) | (simp [*, errW_none, errW_some] <;> rfl), by repeat (first | (with_reducible first | exact HB.out | apply below_alloc | apply pw_below_drewN | apply below_drew1) | exact HB.out)⟩
                    · rw [if_neg c36] at H
                      have c36b0 : (t191 == (wrap64 ((rd t182 0) - 5000))) = false := beq_eq_false_iff_ne.mpr c36
                      have c36b1 : (t191 != (wrap64 ((rd t182 0) - 5000))) = true := bne_iff_ne.mpr c36
                      obtain rfl := Option.some.inj H
                      go_wp2_with (first | ((with_reducible refine gate_callee (f := 43) rfl ?_); refine goesL_ (some 48) rfl rfl Try.func43 (by kernel_rfl) rfl #[.slice A0 l0.length c0] rfl (by (try simp only [List.map_toArray, List.map_cons, List.map_nil]); first | done | rfl | (simp only [List.length_drop, List.length_take]; rfl)) ?_; (with_reducible refine (spec_DrawPlaces.calls kj7 _ _ l0 t182 _ ?side1 ?side2 A25.out).mono ?_); (case side1 => repeat (first | exact (Kd.C_below HR0.out HB.out) | (with_reducible refine Kd.C_alloc ?_ _) | (with_reducible refine Kd.C_drewN ?_ _) | (with_reducible refine Kd.C_drew ?_))); (case side2 => exact HC0.out); rintro e w43 ⟨v183, rfl, ho0, hb⟩; refine ⟨_, rfl, ?_⟩; have n0_ := Aside0.mk (Kd.R_lower ho0 (below_size (by repeat (first | (with_reducible first | exact HB.out | apply below_alloc | apply pw_below_drewN | apply below_drew1) | exact HB.out)))); have n1_ := Aside0.mk (below_step (by repeat (first | (with_reducible first | exact HB.out | apply below_alloc | apply pw_below_drewN | apply below_drew1) | exact HB.out)) hb); clear HB; have HO184 := n0_; have HB := n1_; clear n0_ n1_; (try clear hb); (try clear hb2); (try clear hk); (try clear hi); (try clear ho0); obtain ⟨Ao44, co44, eo44⟩ := Kd.R_slice HO184.out; subst eo44; have p185 : 0 ≤ (0 : Int) := (by omega); have q185 : 0 < (t182.length : Int) := of_decide_eq_true (by first | (with_reducible assumption) | assumption); obtain ⟨ad185, e185, hx185_0⟩ := Kd.at_int (Kd.R_reads' HO184.out).2.2 0 p185 q185; cases e185; have qi185 : (0 < t182.length) = True := eq_true (by omega); (try rw [show ((0 : Int)).toNat = 0 from rfl] at hx185_0); (try rw [Addr.add_zero'] at hx185_0); replace p185 := eq_true p185; replace q185 := eq_true q185; have p186 : 0 ≤ (1 : Int) := (by omega); have q186 : 1 < (t182.length : Int) := of_decide_eq_true (by first | (with_reducible assumption) | assumption); obtain ⟨ad186, e186, hx186_0⟩ := Kd.at_int (Kd.R_reads' HO184.out).2.2 1 p186 q186; obtain rfl : ad185 = ad186 := (by injection e186); (try simp only [show (1 : Int).toNat = 1 from rfl, Nat.reduceMul, Nat.reduceEqDiff, Go.Addr.add, ↓reduceIte] at hx186_0); have qi186 : (1 < t182.length) = True := eq_true (by omega); (try rw [show ((1 : Int)).toNat = 1 from rfl] at hx186_0); replace p186 := eq_true p186; replace q186 := eq_true q186) | ((with_reducible refine gate_callee (f := 20) rfl ?_); refine goesL_ (some 58) rfl rfl Try.func20 (by kernel_rfl) rfl #[.int .i64 t176] rfl (by (try simp only [List.map_toArray, List.map_cons, List.map_nil]); first | done | rfl | (simp only [List.length_drop, List.length_take]; rfl)) ?_; (with_reducible refine (impl_IsValue.calls t176 true _ A28.out).mono ?_); rintro e w' ⟨rfl, ⟨nd, rfl⟩⟩; refine ⟨_, rfl, ?_⟩) | (go_at_call 20; (with_reducible refine (impl_IsValue.calls t177 true _ A30.out).mono ?_); rintro e w' ⟨rfl, ⟨nd, rfl⟩⟩) | (go_at_call 20; (with_reducible refine (impl_IsValue.calls t178 true _ A32.out).mono ?_); rintro e w' ⟨rfl, ⟨nd, rfl⟩⟩) | (go_at_call 33; (with_reducible refine (impl_AddValues.calls (wrap64 ((rd t182 0) - 5000)) (wrap64 ((rd t182 1) - 5000)) t190 _ A34.out).mono ?_); rintro e w45 ⟨rfl, hb⟩; have n0_ := Aside0.mk (Kd.R_below (by (with_reducible repeat (first | apply Kd.R_alloc | apply Kd.R_drewN | apply Kd.R_drew)); exact HO184.out) hb); have n1_ := Aside0.mk (below_step (by repeat (first | (with_reducible first | exact HB.out | apply below_alloc | apply pw_below_drewN | apply below_drew1) | exact HB.out)) hb); clear HO184; clear HB; have HO184 := n0_; have HB := n1_; clear n0_ n1_; (try clear hb); (try clear hb2); (try clear hk); (try clear hi)) | (go_at_call 37; (with_reducible refine (impl_SubValues.calls t190 (wrap64 ((rd t182 1) - 5000)) t191 _ A35.out).mono ?_); rintro e w46 ⟨rfl, hb⟩; have n0_ := Aside0.mk (Kd.R_below (by (with_reducible repeat (first | apply Kd.R_alloc | apply Kd.R_drewN | apply Kd.R_drew)); exact HO184.out) hb); have n1_ := Aside0.mk (below_step (by repeat (first | (with_reducible first | exact HB.out | apply below_alloc | apply pw_below_drewN | apply below_drew1) | exact HB.out)) hb); clear HO184; clear HB; have HO184 := n0_; have HB := n1_; clear n0_ n1_; (try clear hb); (try clear hb2); (try clear hk); (try clear hi)))
                      go_ret
                      exact ⟨by first | rfl | (simp [errW_none, errW_some] <;> rfl) | (simp [*, errW_none, errW_some] <;> rfl), by repeat (first | (with_reducible first | exact HB.out | apply below_alloc | apply pw_below_drewN | apply below_drew1) | exact HB.out)⟩
                  · replace c33 := Bool.eq_false_iff.mpr c33
                    subst c33
                    have H1 : (some false) = some r := by rw [if_neg (show ¬ (false = true) by decide)] at H; exact H
                    clear H
                    have H := H1
                    clear H1
                    obtain rfl := Option.some.inj H
                    go_wp2_with (first | ((with_reducible refine gate_callee (f := 43) rfl ?_); refine goesL_ (some 48) rfl rfl Try.func43 (by kernel_rfl) rfl #[.slice A0 l0.length c0] rfl (by (try simp only [List.map_toArray, List.map_cons, List.map_nil]); first | done | rfl | (simp only [List.length_drop, List.length_take]; rfl)) ?_; (with_reducible refine (spec_DrawPlaces.calls kj7 _ _ l0 t182 _ ?side1 ?side2 A25.out).mono ?_); (case side1 => repeat (first | exact (Kd.C_below HR0.out HB.out) | (with_reducible refine Kd.C_alloc ?_ _) | (with_reducible refine Kd.C_drewN ?_ _) | (with_reducible refine Kd.C_drew ?_))); (case side2 => exact HC0.out); rintro e w47 ⟨v183, rfl, ho0, hb⟩; refine ⟨_, rfl, ?_⟩; have n0_ := Aside0.mk (Kd.R_lower ho0 (below_size (by repeat (first | (with_reducible first | exact HB.out | apply below_alloc | apply pw_below_drewN | apply below_drew1) | exact HB.out)))); have n1_ := Aside0.mk (below_step (by repeat (first | (with_reducible first | exact HB.out | apply below_alloc | apply pw_below_drewN | apply below_drew1) | exact HB.out)) hb); clear HB; have HO184 := n0_; have HB := n1_; clear n0_ n1_; (try clear hb); (try clear hb2); (try clear hk); (try clear hi); (try clear ho0); obtain ⟨Ao48, co48, eo48⟩ := Kd.R_slice HO184.out; subst eo48; have p185 : 0 ≤ (0 : Int) := (by omega); have q185 : 0 < (t182.length : Int) := of_decide_eq_true (by first | (with_reducible assumption) | assumption); obtain ⟨ad185, e185, hx185_0⟩ := Kd.at_int (Kd.R_reads' HO184.out).2.2 0 p185 q185; cases e185; have qi185 : (0 < t182.length) = True := eq_true (by omega); (try rw [show ((0 : Int)).toNat = 0 from rfl] at hx185_0); (try rw [Addr.add_zero'] at hx185_0); replace p185 := eq_true p185; replace q185 := eq_true q185; have p186 : 0 ≤ (1 : Int) := (by omega); have q186 : 1 < (t182.length : Int) := of_decide_eq_true (by first | (with_reducible assumption) | assumption); obtain ⟨ad186, e186, hx186_0⟩ := Kd.at_int (Kd.R_reads' HO184.out).2.2 1 p186 q186; obtain rfl : ad185 = ad186 := (by injection e186); (try simp only [show (1 : Int).toNat = 1 from rfl, Nat.reduceMul, Nat.reduceEqDiff, Go.Addr.add, ↓reduceIte] at hx186_0); have qi186 : (1 < t182.length) = True := eq_true (by omega); (try rw [show ((1 : Int)).toNat = 1 from rfl] at hx186_0); replace p186 := eq_true p186; replace q186 := eq_true q186) | ((with_reducible refine gate_callee (f := 20) rfl ?_); refine goesL_ (some 58) rfl rfl Try.func20 (by kernel_rfl) rfl #[.int .i64 t176] rfl (by (try simp only [List.map_toArray, List.map_cons, List.map_nil]); first | done | rfl | (simp only [List.length_drop, List.length_take]; rfl)) ?_; (with_reducible refine (impl_IsValue.calls t176 true _ A28.out).mono ?_); rintro e w' ⟨rfl, ⟨nd, rfl⟩⟩; refine ⟨_, rfl, ?_⟩) | (go_at_call 20; (with_reducible refine (impl_IsValue.calls t177 true _ A30.out).mono ?_); rintro e w' ⟨rfl, ⟨nd, rfl⟩⟩) | (go_at_call 20; (with_reducible refine (impl_IsValue.calls t178 false _ A32.out).mono ?_); rintro e w' ⟨rfl, ⟨nd, rfl⟩⟩))
                    go_ret
                    exact ⟨by first | rfl | (simp [errW_none, errW_some] <;> rfl) | (simp [*, errW_none, errW_some] <;> rfl), by repeat (first | (with_reducible first | exact HB.out | apply below_alloc | apply pw_below_drewN | apply below_drew1) | exact HB.out)⟩
                · replace c31 := Bool.eq_false_iff.mpr c31
                  subst c31
                  have H1 : (some false) = some r := by rw [if_neg (show ¬ (false = true) by decide)] at H; exact H
                  clear H
                  have H := H1
                  clear H1
                  obtain rfl := Option.some.inj H
                  go_wp2_with (first | ((with_reducible refine gate_callee (f := 43) rfl ?_); refine goesL_ (some 48) rfl rfl Try.func43 (by kernel_rfl) rfl #[.slice A0 l0.length c0] rfl (by (try simp only [List.map_toArray, List.map_cons, List.map_nil]); first | done | rfl | (simp only [List.length_drop, List.length_take]; rfl)) ?_; (with_reducible refine (spec_DrawPlaces.calls kj7 _ _ l0 t182 _ ?side1 ?side2 A25.out).mono ?_); (case side1 => repeat (first | exact (Kd.C_below HR0.out HB.out) | (with_reducible refine Kd.C_alloc ?_ _) | (with_reducible refine Kd.C_drewN ?_ _) | (with_reducible refine Kd.C_drew ?_))); (case side2 => exact HC0.out); rintro e w49 ⟨v183, rfl, ho0, hb⟩; refine ⟨_, rfl, ?_⟩; have n0_ := Aside0.mk (Kd.R_lower ho0 (below_size (by repeat (first | (with_reducible first | exact HB.out | apply below_alloc | apply pw_below_drewN | apply below_drew1) | exact HB.out)))); have n1_ := Aside0.mk (below_step (by repeat (first | (with_reducible first | exact HB.out | apply below_alloc | apply pw_below_drewN | apply below_drew1) | exact HB.out)) hb); clear HB; have HO184 := n0_; have HB := n1_; clear n0_ n1_; (try clear hb); (try clear hb2); (try clear hk); (try clear hi); (try clear ho0); obtain ⟨Ao50, co50, eo50⟩ := Kd.R_slice HO184.out; subst eo50; have p185 : 0 ≤ (0 : Int) := (by omega); have q185 : 0 < (t182.length : Int) := of_decide_eq_true (by first | (with_reducible assumption) | assumption); obtain ⟨ad185, e185, hx185_0⟩ := Kd.at_int (Kd.R_reads' HO184.out).2.2 0 p185 q185; cases e185; have qi185 : (0 < t182.length) = True := eq_true (by omega); (try rw [show ((0 : Int)).toNat = 0 from rfl] at hx185_0); (try rw [Addr.add_zero'] at hx185_0); replace p185 := eq_true p185; replace q185 := eq_true q185; have p186 : 0 ≤ (1 : Int) := (by omega); have q186 : 1 < (t182.length : Int) := of_decide_eq_true (by first | (with_reducible assumption) | assumption); obtain ⟨ad186, e186, hx186_0⟩ := Kd.at_int (Kd.R_reads' HO184.out).2.2 1 p186 q186; obtain rfl : ad185 = ad186 := (by injection e186); (try simp only [show (1 : Int).toNat = 1 from rfl, Nat.reduceMul, Nat.reduceEqDiff, Go.Addr.add, ↓reduceIte] at hx186_0); have qi186 : (1 < t182.length) = True := eq_true (by omega); (try rw [show ((1 : Int)).toNat = 1 from rfl] at hx186_0); replace p186 := eq_true p186; replace q186 := eq_true q186) | ((with_reducible refine gate_callee (f := 20) rfl ?_); refine goesL_ (some 58) rfl rfl Try.func20 (by kernel_rfl) rfl #[.int .i64 t176] rfl (by (try simp only [List.map_toArray, List.map_cons, List.map_nil]); first | done | rfl | (simp only [List.length_drop, List.length_take]; rfl)) ?_; (with_reducible refine (impl_IsValue.calls t176 true _ A28.out).mono ?_); rintro e w' ⟨rfl, ⟨nd, rfl⟩⟩; refine ⟨_, rfl, ?_⟩) | (go_at_call 20; (with_reducible refine (impl_IsValue.calls t177 false _ A30.out).mono ?_); rintro e w' ⟨rfl, ⟨nd, rfl⟩⟩))
                  go_ret
                  exact ⟨by first | rfl | (simp [errW_none, errW_some] <;> rfl) | (simp [*, errW_none, errW_some] <;> rfl), by repeat (first | (with_reducible first | exact HB.out | apply below_alloc | apply pw_below_drewN | apply below_drew1) | exact HB.out)⟩
              · replace c29 := Bool.eq_false_iff.mpr c29
                subst c29
                have H1 : (some false) = some r := by rw [if_neg (show ¬ (false = true) by decide)] at H; exact H
                clear H
                have H := H1
                clear H1
                obtain rfl := Option.some.inj H
                go_wp2_with (first | ((with_reducible refine gate_callee (f := 43) rfl ?_); refine goesL_ (some 48) rfl rfl Try.func43 (by kernel_rfl) rfl #[.slice A0 l0.length c0] rfl (by (try simp only [List.map_toArray, List.map_cons, List.map_nil]); first | done | rfl | (simp only [List.length_drop, List.length_take]; rfl)) ?_; (with_reducible refine (spec_DrawPlaces.calls kj7 _ _ l0 t182 _ ?side1 ?side2 A25.out).mono ?_); (case side1 => repeat (first | exact (Kd.C_below HR0.out HB.out) | (with_reducible refine Kd.C_alloc ?_ _) | (with_reducible refine Kd.C_drewN ?_ _) | (with_reducible refine Kd.C_drew ?_))); (case side2 => exact HC0.out); rintro e w51 ⟨v183, rfl, ho0, hb⟩; refine ⟨_, rfl, ?_⟩; have n0_ := Aside0.mk (Kd.R_lower ho0 (below_size (by repeat (first | (with_reducible first | exact HB.out | apply below_alloc | apply pw_below_drewN | apply below_drew1) | exact HB.out)))); have n1_ := Aside0.mk (below_step (by repeat (first | (with_reducible first | exact HB.out | apply below_alloc | apply pw_below_drewN | apply below_drew1) | exact HB.out)) hb); clear HB; have HO184 := n0_; have HB := n1_; clear n0_ n1_; (try clear hb); (try clear hb2); (try clear hk); (try clear hi); (try clear ho0); obtain ⟨Ao52, co52, eo52⟩ := Kd.R_slice HO184.out; subst eo52; have p185 : 0 ≤ (0 : Int) := (by omega); have q185 : 0 < (t182.length : Int) := of_decide_eq_true (by first | (with_reducible assumption) | assumption); obtain ⟨ad185, e185, hx185_0⟩ := Kd.at_int (Kd.R_reads' HO184.out).2.2 0 p185 q185; cases e185; have qi185 : (0 < t182.length) = True := eq_true (by omega); (try rw [show ((0 : Int)).toNat = 0 from rfl] at hx185_0); (try rw [Addr.add_zero'] at hx185_0); replace p185 := eq_true p185; replace q185 := eq_true q185; have p186 : 0 ≤ (1 : Int) := (by omega); have q186 : 1 < (t182.length : Int) := of_decide_eq_true (by first | (with_reducible assumption) | assumption); obtain ⟨ad186, e186, hx186_0⟩ := Kd.at_int (Kd.R_reads' HO184.out).2.2 1 p186 q186; obtain rfl : ad185 = ad186 := (by injection e186); (try simp only [show (1 : Int).toNat = 1 from rfl, Nat.reduceMul, Nat.reduceEqDiff, Go.Addr.add, ↓reduceIte] at hx186_0); have qi186 : (1 < t182.length) = True := eq_true (by omega); (try rw [show ((1 : Int)).toNat = 1 from rfl] at hx186_0); replace p186 := eq_true p186; replace q186 := eq_true q186) | ((with_reducible refine gate_callee (f := 20) rfl ?_); refine goesL_ (some 58) rfl rfl Try.func20 (by kernel_rfl) rfl #[.int .i64 t176] rfl (by (try simp only [List.map_toArray, List.map_cons, List.map_nil]); first | done | rfl | (simp only [List.length_drop, List.length_take]; rfl)) ?_; (with_reducible refine (impl_IsValue.calls t176 false _ A28.out).mono ?_); rintro e w' ⟨rfl, ⟨nd, rfl⟩⟩; refine ⟨_, rfl, ?_⟩))
                go_ret
                exact ⟨by first | rfl | (simp [errW_none, errW_some] <;> rfl) | (simp [*, errW_none, errW_some] <;> rfl), by repeat (first | (with_reducible first | exact HB.out | apply below_alloc | apply pw_below_drewN | apply below_drew1) | exact HB.out)⟩
            · rw [if_neg c27] at H
              exact absurd H (by simp)
          · rw [if_neg c26] at H
            exact absurd H (by simp)

/-- THE ONE PURE STATEMENT of laws_FnArithmetic: yours. -/
def laws_FnArithmetic.Pure : Prop := ∀ (l0 : List Int), l0.length ≤ maxLen → l0.length * 1 ≤ 140737488351232 → (∀ x ∈ l0, (Lit.int .u8 x).wf = true) → ∃ k, laws_FnArithmetic.f k l0 = some true
theorem laws_FnArithmetic.walk (P : laws_FnArithmetic.Pure) (a0 : Option Addr) (len0 cap0 : Nat) (z0 : List Int) (w : World) (w0 : (a0 = none ∧ len0 = 0 ∧ cap0 = 0 ∧ z0 = []) ∨ ∃ x, a0 = some x ∧ len0 ≤ cap0 ∧ cap0 ≤ maxLen ∧ z0.length = cap0 ∧ (∀ i, i < z0.length → w.cell? (x.add i) = some (.int .u8 (z0.getD i 0))) ∧ ∀ n ∈ z0, (Lit.int .u8 n).wf = true) (y0 : len0 * 1 ≤ 140737488351232) :
    Calls Try.prog 17 #[.slice a0 len0 cap0] w fun e w' => e = .returned (.bool true) ∧ Below w.heap.size w w' := by
  obtain ⟨l0, rfl, hr0, hm0, hw0, hc0⟩ := ReadsInt.ofRowC w0
  obtain ⟨k, h⟩ := P l0 hm0 y0 hw0
  refine (laws_FnArithmetic.calls k _ _ l0 true w (Kd.C_of_reads (d := (0 : Int)) (h1 := fun _ => rfl) hr0) hc0 h).mono ?_
  rintro e w' ⟨rfl, hd⟩
  exact ⟨rfl, hd⟩

end Go.Proofs.Ytakdgpoiihjjlaa.PFnArithmetic
