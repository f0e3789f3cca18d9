/- The program's OperandValue and the reference's return the same for all slices and integers, and leave the slice as it was; no condition. -/
import Derived.Test.YtakejkdkchlanaaPFnExactOperandValuex2
namespace Go.Proofs.Ytakejkdkchlanaa.Pure
open Go.RowKit Go.Proofs.Ytakejkdkchlanaa.PFnExactOperandValue Go.Proofs.YtakejkdkchlanaaW.PrintWords Go.Proofs.YtakejkdkchlanaaW.PrintLast

theorem w64 {n : Int} (h1 : -9223372036854775808 ≤ n) (h2 : n ≤ 9223372036854775807) : wrap64 n = n := by unfold wrap64; omega
theorem w64_in (n : Int) : -9223372036854775808 ≤ wrap64 n ∧ wrap64 n ≤ 9223372036854775807 := by unfold wrap64; omega
theorem wf64 {n : Int} (h : (Lit.int .i64 n).wf = true) : -9223372036854775808 ≤ n ∧ n ≤ 9223372036854775807 := by
  simp only [Lit.wf, IntKind.min, IntKind.max, IntKind.signed, IntKind.bits, Bool.and_eq_true, decide_eq_true_eq, if_true] at h
  omega
theorem wfu8 {n : Int} (h : (Lit.int .u8 n).wf = true) : 0 ≤ n ∧ n ≤ 255 := by
  simp [Lit.wf, IntKind.min, IntKind.max, IntKind.signed, IntKind.bits] at h
  omega
theorem and_in (x : Int) (m : Nat) (hm : m < 9223372036854775808) : 0 ≤ Go.bits .and .i64 x (m : Int) ∧ Go.bits .and .i64 x (m : Int) ≤ m := by
  have h1 : (BitVec.ofInt 64 x &&& BitVec.ofInt 64 (m : Int)).toNat ≤ m := by
    rw [BitVec.toNat_and]
    refine Nat.le_trans Nat.and_le_right ?_
    rw [BitVec.ofInt_natCast, BitVec.toNat_ofNat]
    exact Nat.mod_le _ _
  have h2 : Go.bits .and .i64 x (m : Int) = IntKind.i64.wrap (((BitVec.ofInt 64 x &&& BitVec.ofInt 64 (m : Int)).toNat : Nat) : Int) := rfl
  rw [h2, Go.IntKind.wrap_i64]
  omega
theorem and255 (x : Int) : 0 ≤ Go.bits .and .i64 x 255 ∧ Go.bits .and .i64 x 255 ≤ 255 := and_in x 255 (by decide)
theorem tmod_in (x n : Int) (h0 : 0 ≤ x) (h : 1 ≤ n) : 0 ≤ Int.tmod x n ∧ Int.tmod x n < n := ⟨Int.tmod_nonneg _ h0, Int.tmod_lt_of_pos _ (by omega)⟩
theorem in_eq (a b c : Int) : spec_l01In.f a b c = some (decide (b ≤ a ∧ a ≤ c)) := by
  unfold spec_l01In.f
  by_cases h : a ≥ b
  · rw [if_pos h]; simp; omega
  · rw [if_neg h]; simp; omega
theorem within_eq (a b c : Int) : impl_within.f a b c = some (decide (b ≤ a ∧ a ≤ c)) := by
  unfold impl_within.f
  by_cases h : a ≥ b
  · rw [if_pos h]; simp; omega
  · rw [if_neg h]; simp; omega
theorem rd_get (xs : List Int) (i : Int) (h0 : 0 ≤ i) (h1 : i < (xs.length : Int)) : xs[i.toNat]? = some (rd xs i) := by
  have h : i.toNat < xs.length := by omega
  unfold Go.Proofs.YtakejkdkchlanaaW.PrintWords.rd
  rw [List.getD_eq_getElem?_getD, List.getElem?_eq_getElem h]
  rfl
theorem toInt_loop (l : List Int) (sz : (l.length : Int) ≤ 140737488351232) (d : Nat) : ∀ (k : Nat) (x : List Int) (i : Int), 0 ≤ i → i ≤ l.length → (l.length : Int) - i = d → d < k → x.length = l.length → (∀ j : Nat, (j : Int) < i → x[j]? = l[j]?) →
    laws_toIntS.l0 k l x i = some l := by
  induction d with
  | zero =>
    intro k x i h0 h1 hd hk hl hx
    obtain ⟨k, rfl⟩ : ∃ m, k = m + 1 := ⟨k - 1, by omega⟩
    simp only [laws_toIntS.l0]
    rw [if_neg (by omega)]
    congr 1
    apply List.ext_getElem?
    intro j
    by_cases hj : (j : Int) < i
    · exact hx j hj
    · rw [List.getElem?_eq_none (by omega), List.getElem?_eq_none (by omega)]
  | succ d ih =>
    intro k x i h0 h1 hd hk hl hx
    obtain ⟨k, rfl⟩ : ∃ m, k = m + 1 := ⟨k - 1, by omega⟩
    simp only [laws_toIntS.l0]
    rw [if_pos (by omega), if_pos h0, if_pos (by omega), w64 (n := i + 1) (by omega) (by omega)]
    refine ih k _ (i + 1) (by omega) (by omega) (by omega) (by omega) (by simp [hl]) ?_
    intro j hj
    by_cases e : (j : Int) = i
    · have e2 : j = i.toNat := by omega
      subst e2
      rw [rd_get l i h0 (by omega), List.getElem?_set_self (by omega)]
    · rw [List.getElem?_set_ne (by omega)]
      exact hx j (by omega)
theorem toInt_tells (l : List Int) (h : (l.length : Int) ≤ 1048576) : ∀ k, l.length < k → laws_toIntS.f k l = some l := by
  intro k hk
  unfold laws_toIntS.f
  rw [if_pos (by omega), if_pos (by omega)]
  exact toInt_loop l (by omega) l.length k _ 0 (by omega) (by omega) (by omega) hk (by simp) (fun j hj => by omega)
theorem eqInt_loop (l : List Int) (sz : (l.length : Int) ≤ 140737488351232) (d : Nat) : ∀ (k : Nat) (i : Int), 0 ≤ i → i ≤ l.length → (l.length : Int) - i = d → d < k → laws_eqIntS.l0 k l l i = some true := by
  induction d with
  | zero =>
    intro k i h0 h1 hd hk
    obtain ⟨k, rfl⟩ : ∃ m, k = m + 1 := ⟨k - 1, by omega⟩
    simp only [laws_eqIntS.l0]
    rw [if_neg (by omega)]
  | succ d ih =>
    intro k i h0 h1 hd hk
    obtain ⟨k, rfl⟩ : ∃ m, k = m + 1 := ⟨k - 1, by omega⟩
    simp only [laws_eqIntS.l0]
    rw [if_pos (by omega), if_pos h0, if_pos (by omega), if_pos trivial, w64 (n := i + 1) (by omega) (by omega)]
    exact ih k (i + 1) (by omega) (by omega) (by omega) (by omega)
theorem eqInt_self (l : List Int) (sz : (l.length : Int) ≤ 140737488351232) : ∀ k, l.length < k → laws_eqIntS.f k l l = some true := by
  intro k hk
  unfold laws_eqIntS.f
  rw [if_pos rfl]
  exact eqInt_loop l sz l.length k 0 (by omega) (by omega) (by omega) hk
/-- Eight values. -/
def vok (l : List Int) : Bool := decide (l.length = 8) && l.all fun x => decide (-1000000 ≤ x ∧ x ≤ 1000000)
theorem ivars (l : List Int) : impl_VarsOk.f l = some (vok l) := by
  unfold impl_VarsOk.f impl_areValues.f vok
  by_cases h : (l.length : Int) = 8
  · rw [if_pos h]
    have : l.length = 8 := by omega
    simp [this]
  · rw [if_neg h]
    have : ¬ l.length = 8 := by omega
    simp [this]
theorem svars_loop (l : List Int) (sz : (l.length : Int) ≤ 140737488351232) (d : Nat) : ∀ (k : Nat) (i : Int), 0 ≤ i → i ≤ l.length → (l.length : Int) - i = d → d < k → (∀ j : Nat, (j : Int) < i → decide (-1000000 ≤ rd l j ∧ rd l j ≤ 1000000) = true) →
    spec_VarsOk.l0 k l i = some (vok l) := by
  induction d with
  | zero =>
    intro k i h0 h1 hd hk hA
    obtain ⟨k, rfl⟩ : ∃ m, k = m + 1 := ⟨k - 1, by omega⟩
    simp only [spec_VarsOk.l0]
    rw [if_neg (by omega)]
    have h := impl_areValues.none l i (by omega) hA
    unfold vok
    rw [h, Bool.and_true]
    congr 1
    by_cases e : l.length = 8
    · simp [e]
    · have : ¬ (l.length : Int) = 8 := by omega
      simp [e, this]
  | succ d ih =>
    intro k i h0 h1 hd hk hA
    obtain ⟨k, rfl⟩ : ∃ m, k = m + 1 := ⟨k - 1, by omega⟩
    simp only [spec_VarsOk.l0]
    rw [if_pos (by omega), if_pos h0]
    unfold spec_IsValue.f
    rw [in_eq]
    simp only [Option.bind_some]
    by_cases c : decide (-1000000 ≤ rd l i ∧ rd l i ≤ 1000000) = true
    · rw [if_pos c, w64 (n := i + 1) (by omega) (by omega)]
      exact ih k (i + 1) (by omega) (by omega) (by omega) (by omega) (impl_areValues.before l i h0 (by omega) hA c)
    · rw [if_neg c]
      have h := impl_areValues.some_ l i h0 (by omega) (Bool.eq_false_iff.mpr c)
      unfold vok
      rw [h, Bool.and_false]
theorem svars (l : List Int) (sz : (l.length : Int) ≤ 140737488351232) : ∀ k, l.length < k → spec_VarsOk.f k l = some (vok l) := by
  intro k hk
  unfold spec_VarsOk.f
  exact svars_loop l sz l.length k 0 (by omega) (by omega) (by omega) hk (fun j hj => by omega)
theorem vok_len {l : List Int} (h : vok l = true) : l.length = 8 := by
  unfold vok at h
  rw [Bool.and_eq_true] at h
  exact of_decide_eq_true h.1
theorem vok_in {l : List Int} (h : vok l = true) (i : Int) (h0 : 0 ≤ i) (h1 : i < 8) : -1000000 ≤ rd l i ∧ rd l i ≤ 1000000 := by
  have hl := vok_len h
  unfold vok at h
  rw [Bool.and_eq_true, List.all_eq_true] at h
  have hi : i.toNat < l.length := by omega
  have h2 := h.2 _ (List.getElem_mem hi)
  have hr : rd l i = l[i.toNat] := by
    unfold Go.Proofs.YtakejkdkchlanaaW.PrintWords.rd
    rw [List.getD_eq_getElem?_getD, List.getElem?_eq_getElem hi]
    rfl
  rw [hr]
  exact of_decide_eq_true h2
theorem opv (l : List Int) (a : Int) (ha : -9223372036854775808 ≤ a ∧ a ≤ 9223372036854775807) (sz : (l.length : Int) ≤ 140737488351232) (k : Nat) (hk : l.length < k) : ∃ r, spec_OperandValue.f k l a = some r ∧ impl_OperandValue.f l a = some r := by
  unfold spec_OperandValue.f impl_OperandValue.f spec_OperandOk.f impl_OperandOk.f
  rw [in_eq, within_eq]
  simp only [Option.bind_some]
  by_cases c : decide (-8 ≤ a ∧ a ≤ 999) = true
  · rw [if_pos c, if_pos c, svars l sz k hk, ivars]
    simp only [Option.bind_some]
    by_cases v : vok l = true
    · have hl := vok_len v
      have hc := of_decide_eq_true c
      rw [if_pos v, if_pos v]
      unfold spec_l03Value.f impl_operand.f
      by_cases n : a < 0
      · rw [if_pos n, w64 (by omega) (by omega), if_pos (by omega), if_pos (by omega)]
        exact ⟨_, rfl, rfl⟩
      · rw [if_neg n]
        exact ⟨_, rfl, rfl⟩
    · rw [if_neg v, if_neg v]
      exact ⟨_, rfl, rfl⟩
  · rw [if_neg c, if_neg c]
    exact ⟨_, rfl, rfl⟩
theorem FnExactOperandValue : laws_FnExactOperandValue.Pure := by
  intro l a _ _ _ ha
  refine ⟨l.length + 5, ?_⟩
  unfold laws_FnExactOperandValue.f
  by_cases c : (l.length : Int) > 1048576
  · rw [if_pos c]
  · have hT := toInt_tells l (by omega)
    have hE := eqInt_self l (by omega)
    obtain ⟨r, hS, hI⟩ := opv l a (wf64 ha) (by omega) (l.length + 5) (by omega)
    rw [if_neg c, hT _ (by omega)]
    simp only [Option.bind_some]
    rw [hS, hI, hE _ (by omega)]
    simp

end Go.Proofs.Ytakejkdkchlanaa.Pure
