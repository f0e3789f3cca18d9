/- Walks of the functions that a statement reaches, written by a program (the printing program, mended): no condition. -/
import Derived.Test.YtlhcofkandeepaaPFnLogsx0
import Derived.Test.YtlhcofkandeepaaPFnLogsx5
namespace Go.Proofs.Ytlhcofkandeepaa.PFnLogs
open Go.RowKit Go.Proofs.YtlhcofkandeepaaW.PrintWords Go.Proofs.YtlhcofkandeepaaW.PrintLast Go.Proofs.YtlhcofkandeepaaW.PrintMore
attribute [local go_sem] max2_int min2_int max_two min_two max_three min_three max_four min_four   -- for this text's walks alone
set_option linter.unusedVariables false
set_option linter.unusedSimpArgs false

/-! ### slices_Contains_int_int: function 58 -/
def slices_Contains_int_int.f (k : Nat) (l0 : List Int) (a1 : Int) : Option (Bool) := (slices_Index_int_int.f k l0 a1).bind fun t193 => (some (decide (t193 ≥ 0)))
theorem slices_Contains_int_int.mono : ∀ a0 a1 k, LeO (slices_Contains_int_int.f k a0 a1) (slices_Contains_int_int.f (k + 1) a0 a1) := by
  intro a0 a1 k
  unfold slices_Contains_int_int.f
  repeat' first
      | (with_reducible exact slices_Index_int_int.mono _ _ _)
      | (with_reducible exact LeO.refl _)
      | (with_reducible exact LeO.none _)
      | (with_reducible refine LeO.ite ?_ ?_)
      | (with_reducible refine LeO.bind ?_ (fun _ => ?_))
      | exact slices_Index_int_int.mono _ _ _
      | exact LeO.none _
      | refine LeO.ite ?_ ?_
      | refine LeO.bind ?_ (fun _ => ?_)
set_option maxHeartbeats 8000000 in
set_option maxRecDepth 100000 in
theorem slices_Contains_int_int.calls (k : Nat) (A0 : Option Addr) (c0 : Nat) (l0 : List Int) (a1 : Int) (r : Bool) (w : World) (hr0 : Kd.C (Kd.int .i64) w A0 l0.length l0) (hc0 : l0.length ≤ c0) (h : slices_Contains_int_int.f k l0 a1 = some r) :
    Calls Try.prog 58 #[.slice A0 l0.length c0, .int .i64 a1] w fun e w' => e = .returned (.bool r) ∧ Drawn0 w w' := by
  have HR0 := Aside0.mk hr0
  have HC0 := Aside0.mk hc0
  clear hr0 hc0
  have H : ((slices_Index_int_int.f k l0 a1).bind fun t193 => (some (decide (t193 ≥ 0)))) = some r := h
  clear h
  replace H := Option.bind_eq_some_iff.mp H
  obtain ⟨t193, A30, H⟩ := H
  replace H : (some (decide (t193 ≥ 0))) = some r := H
  have A3 := Aside0.mk A30
  clear A30
  obtain rfl := Option.some.inj H
  go_enter Try.func58, Try.ntmps58
  go_wp2_with (first | ((with_reducible refine gate_callee (f := 87) rfl ?_); refine goesL_ (some 7) rfl rfl Try.func87 (by kernel_rfl) rfl #[.slice A0 l0.length c0, .int .i64 a1] rfl (by (try simp only [List.map_toArray, List.map_cons, List.map_nil]); first | done | rfl | (simp only [List.length_drop, List.length_take]; rfl)) ?_; (with_reducible refine (slices_Index_int_int.calls k _ _ l0 a1 t193 _ ?side1 ?side2 A3.out).mono ?_); (case side1 => repeat (first | exact HR0.out | (with_reducible refine Kd.C_alloc ?_ _) | (with_reducible refine Kd.C_drewN ?_ _) | (with_reducible refine Kd.C_drew ?_))); (case side2 => exact HC0.out); rintro e w' ⟨rfl, ⟨nd, rfl⟩⟩; refine ⟨_, rfl, ?_⟩))
  go_ret
  exact ⟨by first | rfl | (simp; done) | (simp [*]; done), by repeat (first | exact Drawn0.refl _ | apply Drawn0.step)⟩

/-! ### impl_HasVar: function 26 -/
def impl_HasVar.f (k : Nat) (l0 : List Int) (a1 : Int) : Option (Bool) := (slices_Contains_int_int.f k l0 a1).bind fun t194 => (some t194)
theorem impl_HasVar.mono : ∀ a0 a1 k, LeO (impl_HasVar.f k a0 a1) (impl_HasVar.f (k + 1) a0 a1) := by
  intro a0 a1 k
  unfold impl_HasVar.f
  repeat' first
      | (with_reducible exact slices_Contains_int_int.mono _ _ _)
      | (with_reducible exact LeO.refl _)
      | (with_reducible exact LeO.none _)
      | (with_reducible refine LeO.ite ?_ ?_)
      | (with_reducible refine LeO.bind ?_ (fun _ => ?_))
      | exact slices_Contains_int_int.mono _ _ _
      | exact LeO.none _
      | refine LeO.ite ?_ ?_
      | refine LeO.bind ?_ (fun _ => ?_)
set_option maxHeartbeats 8000000 in
set_option maxRecDepth 100000 in
theorem impl_HasVar.calls (k : Nat) (A0 : Option Addr) (c0 : Nat) (l0 : List Int) (a1 : Int) (r : Bool) (w : World) (hr0 : Kd.C (Kd.int .i64) w A0 l0.length l0) (hc0 : l0.length ≤ c0) (h : impl_HasVar.f k l0 a1 = some r) :
    Calls Try.prog 26 #[.slice A0 l0.length c0, .int .i64 a1] w fun e w' => e = .returned (.bool r) ∧ Drawn0 w w' := by
  have HR0 := Aside0.mk hr0
  have HC0 := Aside0.mk hc0
  clear hr0 hc0
  have H : ((slices_Contains_int_int.f k l0 a1).bind fun t194 => (some t194)) = some r := h
  clear h
  replace H := Option.bind_eq_some_iff.mp H
  obtain ⟨t194, A30, H⟩ := H
  replace H : (some t194) = some r := H
  have A3 := Aside0.mk A30
  clear A30
  obtain rfl := Option.some.inj H
  go_enter Try.func26, Try.ntmps26
  go_wp2_with (first | ((with_reducible refine gate_callee (f := 58) rfl ?_); refine goesL_ (some 7) rfl rfl Try.func58 (by kernel_rfl) rfl #[.slice A0 l0.length c0, .int .i64 a1] rfl (by (try simp only [List.map_toArray, List.map_cons, List.map_nil]); first | done | rfl | (simp only [List.length_drop, List.length_take]; rfl)) ?_; (with_reducible refine (slices_Contains_int_int.calls k _ _ l0 a1 t194 _ ?side1 ?side2 A3.out).mono ?_); (case side1 => repeat (first | exact HR0.out | (with_reducible refine Kd.C_alloc ?_ _) | (with_reducible refine Kd.C_drewN ?_ _) | (with_reducible refine Kd.C_drew ?_))); (case side2 => exact HC0.out); rintro e w' ⟨rfl, ⟨nd, rfl⟩⟩; refine ⟨_, rfl, ?_⟩))
  go_ret
  exact ⟨by first | rfl | (simp; done) | (simp [*]; done), by repeat (first | exact Drawn0.refl _ | apply Drawn0.step)⟩

/-! ### slices_DeleteFunc_MustLog: function 144 (given) -/
/-- What is deleted: what is written in every execution and never read before. -/
def slices_DeleteFunc_MustLog.del (l1 l2 : List Int) (v : Int) : Bool := !decide (v ∈ l1) && decide (v ∈ l2)
def slices_DeleteFunc_MustLog.f (l0 l1 l2 : List Int) : Option (List Int) := if l0.length ≤ 1000 ∧ l1.length ≤ 1000 ∧ l2.length ≤ 1000 then some (l0.filter fun v => !slices_DeleteFunc_MustLog.del l1 l2 v) else none
theorem slices_DeleteFunc_MustLog.at_ (xs : List Int) (i : Int) (h0 : 0 ≤ i) (h : i.toNat < xs.length) : rd xs i = xs[i.toNat] := by
  unfold Go.Proofs.YtlhcofkandeepaaW.PrintWords.rd
  rw [List.getD_eq_getElem?_getD, List.getElem?_eq_getElem h]
  rfl
theorem slices_DeleteFunc_MustLog.idx (r : List Int) (x : Int) (sz : r.length ≤ 1000) (d : Nat) : ∀ (k : Nat) (i : Int), 0 ≤ i → (r.length : Int) - i = d → d < k → ∃ z, slices_Index_int_int.l0 k r x (r.length : Int) i = some z ∧ decide (z ≥ 0) = decide (x ∈ r.drop i.toNat) := by
  have w64 : ∀ {n : Int}, -9223372036854775808 ≤ n → n ≤ 9223372036854775807 → wrap64 n = n := by intro n h1 h2; unfold wrap64; omega
  induction d with
  | zero =>
    intro k i h0 hd hk
    obtain ⟨k, rfl⟩ : ∃ m, k = m + 1 := ⟨k - 1, by omega⟩
    simp only [slices_Index_int_int.l0]
    rw [if_neg (by omega), List.drop_eq_nil_of_le (by omega)]
    exact ⟨_, rfl, by simp⟩
  | succ d ih =>
    intro k i h0 hd hk
    obtain ⟨k, rfl⟩ : ∃ m, k = m + 1 := ⟨k - 1, by omega⟩
    have hi : i.toNat < r.length := by omega
    have hr := slices_DeleteFunc_MustLog.at_ r i h0 hi
    simp only [slices_Index_int_int.l0]
    rw [if_pos (by omega), if_pos h0, if_pos (by omega), List.drop_eq_getElem_cons hi, ← hr]
    by_cases c : x = rd r i
    · rw [if_pos c, ← c]; exact ⟨_, rfl, by simp; omega⟩
    · obtain ⟨z, e, hz⟩ := ih k (i + 1) (by omega) (by omega) (by omega)
      rw [if_neg c, w64 (by omega) (by omega), e]
      refine ⟨z, rfl, ?_⟩
      rw [hz, show (i + 1).toNat = i.toNat + 1 by omega, Bool.eq_iff_iff]
      simp only [decide_eq_true_eq, List.mem_cons]
      constructor
      · exact Or.inr
      · rintro (h | h)
        · exact absurd h c
        · exact h
theorem slices_DeleteFunc_MustLog.has (r : List Int) (x : Int) (sz : r.length ≤ 1000) : impl_HasVar.f (r.length + 1) r x = some (decide (x ∈ r)) := by
  obtain ⟨z, e, hz⟩ := slices_DeleteFunc_MustLog.idx r x sz r.length (r.length + 1) 0 (by omega) (by omega) (by omega)
  unfold impl_HasVar.f slices_Contains_int_int.f slices_Index_int_int.f
  rw [e]
  simp only [Option.bind_some, Option.some.injEq]
  rw [hz]
  rfl
set_option maxHeartbeats 8000000 in
set_option maxRecDepth 100000 in
theorem slices_DeleteFunc_MustLog.clo (A1 A2 : Option Addr) (c1 c2 : Nat) (l1 l2 : List Int) (g1 g2 : Nat) (x : Int) (W : World) (h1 : Kd.C (Kd.int .i64) W A1 l1.length l1) (hc1 : l1.length ≤ c1) (h2 : Kd.C (Kd.int .i64) W A2 l2.length l2) (hc2 : l2.length ≤ c2) (s1 : l1.length ≤ 1000) (s2 : l2.length ≤ 1000)
    (b1 : W.heap[g1]? = some (.cells #[.slice A1 l1.length c1] 24 (0, 0))) (b2 : W.heap[g2]? = some (.cells #[.slice A2 l2.length c2] 24 (0, 0))) :
    Calls Try.prog 70 #[.int .i64 x, .pointer (some ⟨g1, 0, none⟩), .pointer (some ⟨g2, 0, none⟩)] W fun e w' => e = .returned (.bool (slices_DeleteFunc_MustLog.del l1 l2 x)) ∧ ∃ q, w' = W.drewN q := by
  have H1 := Aside0.mk h1
  have H2 := Aside0.mk h2
  have K1 := Aside0.mk (slices_DeleteFunc_MustLog.has l1 x s1)
  have K2 := Aside0.mk (slices_DeleteFunc_MustLog.has l2 x s2)
  have hd : slices_DeleteFunc_MustLog.del l1 l2 x = (!decide (x ∈ l1) && decide (x ∈ l2)) := rfl
  have hcx1 := (blk_cell b1 0).trans rfl
  have hcx2 := (blk_cell b2 0).trans rfl
  rw [hd]
  clear hd b1 b2 h1 h2
  generalize decide (x ∈ l1) = p1 at K1 ⊢
  generalize decide (x ∈ l2) = p2 at K2 ⊢
  cases p1 with
  | true =>
    go_enter Try.func70, Try.ntmps70
    go_wp2_with (go_at_call 26; (with_reducible refine (impl_HasVar.calls (l1.length + 1) A1 c1 l1 x true _ ?sC hc1 K1.out).mono ?_); (case sC => repeat (first | exact H1.out | (with_reducible refine Kd.C_drewN ?_ _) | (with_reducible refine Kd.C_drew ?_))); rintro e w' ⟨rfl, ⟨nd, rfl⟩⟩)
    go_ret
    exact ⟨by first | rfl | simp, _, rfl⟩
  | false =>
    go_enter Try.func70, Try.ntmps70
    go_wp2_with (first | (go_at_call 26; (with_reducible refine (impl_HasVar.calls (l1.length + 1) A1 c1 l1 x false _ ?sC hc1 K1.out).mono ?_); (case sC => repeat (first | exact H1.out | (with_reducible refine Kd.C_drewN ?_ _) | (with_reducible refine Kd.C_drew ?_))); rintro e w' ⟨rfl, ⟨nd, rfl⟩⟩; clear K1) | (go_at_call 26; (with_reducible refine (impl_HasVar.calls (l2.length + 1) A2 c2 l2 x p2 _ ?sC hc2 K2.out).mono ?_); (case sC => repeat (first | exact H2.out | (with_reducible refine Kd.C_drewN ?_ _) | (with_reducible refine Kd.C_drew ?_))); rintro e w' ⟨rfl, ⟨nd, rfl⟩⟩))
    go_ret
    exact ⟨by first | rfl | simp, _, rfl⟩
set_option maxHeartbeats 8000000 in
set_option maxRecDepth 100000 in
theorem slices_DeleteFunc_MustLog.calls (P0_ : Nat → Prop) (u9000_ : Value) (l0 : List Int) (A1 : Option Addr) (c1 : Nat) (l1 : List Int) (A2 : Option Addr) (c2 : Nat) (l2 : List Int) (r : List Int) (w0 w : World) (hB : Below w0.heap.size w0 w) (ho0 : Kd.R (Kd.int .i64) 3 w w0.heap.size P0_ u9000_ l0) (hr1 : ∀ W_, Kept w W_ (fun k_ => P0_ k_) → Kd.C (Kd.int .i64) W_ A1 l1.length l1) (hc1 : l1.length ≤ c1) (hr2 : ∀ W_, Kept w W_ (fun k_ => P0_ k_) → Kd.C (Kd.int .i64) W_ A2 l2.length l2) (hc2 : l2.length ≤ c2) (h : slices_DeleteFunc_MustLog.f l0 l1 l2 = some r)
    (g1 g2 : Nat) (b1 : w.heap[g1]? = some (.cells #[.slice A1 l1.length c1] 24 (0, 0))) (b2 : w.heap[g2]? = some (.cells #[.slice A2 l2.length c2] 24 (0, 0))) :
    Calls Try.prog 69 #[u9000_, .func (.func 70) #[] #[.pointer (some ⟨g1, 0, none⟩), .pointer (some ⟨g2, 0, none⟩)]] w fun e w' => ∃ v0_ : Value, e = .returned (v0_) ∧ Kd.R (Kd.int .i64) 3 w' w0.heap.size (fun k_ => (P0_ k_ ∨ w.heap.size ≤ k_)) v0_ r ∧ Below w0.heap.size w0 w' ∧ Kept w w' (fun k_ => P0_ k_) := by
  unfold slices_DeleteFunc_MustLog.f at h
  by_cases c : l0.length ≤ 1000 ∧ l1.length ≤ 1000 ∧ l2.length ≤ 1000
  · rw [if_pos c] at h
    obtain rfl := Option.some.inj h
    obtain ⟨s0, s1, s2⟩ := c
    by_cases hz : l0 = []
    · subst hz
      obtain ⟨A, cc, rfl, _, _⟩ := Kd.R_reads ho0
      have HO := Aside0.mk ho0
      have HB := Aside0.mk hB
      clear ho0 hB hr1 hr2 b1 b2 h
      go_enter Try.func69, Try.ntmps69
      go_wp2_with (go_at_call 93; refine (Try.slices_IndexFunc_empty (α := Int) _ _ _ _).mono ?_; rintro e w' ⟨rfl, rfl⟩)
      go_ret
      exact ⟨_, rfl, Kd.R_mono HO.out (fun k hk => .inl hk), HB.out, Nat.le_refl _, fun _ _ _ => rfl⟩
    · have hne1 := Kd.R_ne ho0 b1 (by decide)
      have hne2 := Kd.R_ne ho0 b2 (by decide)
      obtain ⟨g, cap, rfl, hlt, hP, hn, ho, hH⟩ := own_form_ ho0 hz
      have n1 : g ≠ g1 := fun e_ => hne1 (by rw [← e_]; rfl)
      have n2 : g ≠ g2 := fun e_ => hne2 (by rw [← e_]; rfl)
      have hk : ∀ W : World, Kept w W (fun k_ => k_ = g) → ∀ x : Int, Calls Try.prog 70 #[.int .i64 x, .pointer (some ⟨g1, 0, none⟩), .pointer (some ⟨g2, 0, none⟩)] W fun e w' => e = .returned (.bool (slices_DeleteFunc_MustLog.del l1 l2 x)) ∧ ∃ q, w' = W.drewN q := by
        intro W hW x
        have hW2 : Kept w W (fun k_ => P0_ k_) := ⟨hW.1, fun i hi hs => hW.2 i hi (fun e_ => hs (by rw [e_]; exact hP))⟩
        exact slices_DeleteFunc_MustLog.clo A1 A2 c1 c2 l1 l2 g1 g2 x W (hr1 W hW2) hc1 (hr2 W hW2) hc2 s1 s2 ((hW.2 g1 (blk_lt b1) (fun e_ => n1 e_.symm)).trans b1) ((hW.2 g2 (blk_lt b2) (fun e_ => n2 e_.symm)).trans b2)
      refine (Try.slices_DeleteFunc (Value.int .i64) (fun _ => rfl) (slices_DeleteFunc_MustLog.del l1 l2) 70 #[.pointer (some ⟨g1, 0, none⟩), .pointer (some ⟨g2, 0, none⟩)] (enters_of Try.func70 (by kernel_rfl) rfl) 0 Try.zeroValue3 g 0 cap l0.toArray w ?hp ?hpo hH (by simp; omega) (by simpa using hn)).mono ?_
      case hp => exact fun W x hb => hk W ⟨hb.size, fun i hi _ => hb.block i hi⟩ x
      case hpo =>
        intro n os dk x hd
        have hy := (behind_ (P0 := fun k_ => k_ = g) (k := 0) n (ys := dk.toList) os hB rfl hlt ho (by simpa using hd) (by omega)).2.2
        exact hk _ hy x
      rintro e w' ⟨rfl, q, rfl⟩
      have hle : (l0.filter fun x => !slices_DeleteFunc_MustLog.del l1 l2 x).length ≤ l0.length := List.length_filter_le _ _
      have hb := behind_ (k := (l0.filter fun x => !slices_DeleteFunc_MustLog.del l1 l2 x).length) (ys := (l0.filter fun x => !slices_DeleteFunc_MustLog.del l1 l2 x) ++ List.replicate (l0.length - (l0.filter fun x => !slices_DeleteFunc_MustLog.del l1 l2 x).length) 0) q #[] hB hP hlt ho (by simp; omega) hle
      rw [List.take_left, Sort.grow_empty] at hb
      exact ⟨_, rfl, hb⟩
  · rw [if_neg c] at h
    cases h


end Go.Proofs.Ytlhcofkandeepaa.PFnLogs
