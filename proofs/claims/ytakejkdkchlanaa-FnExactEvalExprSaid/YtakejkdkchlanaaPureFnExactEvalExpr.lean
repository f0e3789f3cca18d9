/- The program's EvalExpr and the reference's return the same for all slices and expressions, and leave the slice as it was; no condition. -/
import Derived.Test.YtakejkdkchlanaaPFnExactEvalExprx3
namespace Go.Proofs.Ytakejkdkchlanaa.Pure
open Go.RowKit Go.Proofs.Ytakejkdkchlanaa.PFnExactEvalExpr Go.Proofs.YtakejkdkchlanaaW.PrintWords Go.Proofs.YtakejkdkchlanaaW.PrintLast
set_option linter.unusedVariables false
set_option linter.unusedSimpArgs false

theorem w64 {n : Int} (h1 : -9223372036854775808 ≤ n) (h2 : n ≤ 9223372036854775807) : wrap64 n = n := by unfold wrap64; omega
theorem w64_in (n : Int) : -9223372036854775808 ≤ wrap64 n ∧ wrap64 n ≤ 9223372036854775807 := by unfold wrap64; omega
theorem wf64 {n : Int} (h : (Lit.int .i64 n).wf = true) : -9223372036854775808 ≤ n ∧ n ≤ 9223372036854775807 := by
  simp only [Lit.wf, IntKind.min, IntKind.max, IntKind.signed, IntKind.bits, Bool.and_eq_true, decide_eq_true_eq, if_true] at h
  omega
theorem wfu8 {n : Int} (h : (Lit.int .u8 n).wf = true) : 0 ≤ n ∧ n ≤ 255 := by
  simp [Lit.wf, IntKind.min, IntKind.max, IntKind.signed, IntKind.bits] at h
  omega
theorem and_in (x : Int) (m : Nat) (hm : m < 9223372036854775808) : 0 ≤ Go.bits .and .i64 x (m : Int) ∧ Go.bits .and .i64 x (m : Int) ≤ m := by
  have h1 : (BitVec.ofInt 64 x &&& BitVec.ofInt 64 (m : Int)).toNat ≤ m := by
    rw [BitVec.toNat_and]
    refine Nat.le_trans Nat.and_le_right ?_
    rw [BitVec.ofInt_natCast, BitVec.toNat_ofNat]
    exact Nat.mod_le _ _
  have h2 : Go.bits .and .i64 x (m : Int) = IntKind.i64.wrap (((BitVec.ofInt 64 x &&& BitVec.ofInt 64 (m : Int)).toNat : Nat) : Int) := rfl
  rw [h2, Go.IntKind.wrap_i64]
  omega
theorem and255 (x : Int) : 0 ≤ Go.bits .and .i64 x 255 ∧ Go.bits .and .i64 x 255 ≤ 255 := and_in x 255 (by decide)
theorem tmod_in (x n : Int) (h0 : 0 ≤ x) (h : 1 ≤ n) : 0 ≤ Int.tmod x n ∧ Int.tmod x n < n := ⟨Int.tmod_nonneg _ h0, Int.tmod_lt_of_pos _ (by omega)⟩
theorem in_eq (a b c : Int) : spec_l01In.f a b c = some (decide (b ≤ a ∧ a ≤ c)) := by
  unfold spec_l01In.f
  by_cases h : a ≥ b
  · rw [if_pos h]; simp; omega
  · rw [if_neg h]; simp; omega
theorem within_eq (a b c : Int) : impl_within.f a b c = some (decide (b ≤ a ∧ a ≤ c)) := by
  unfold impl_within.f
  by_cases h : a ≥ b
  · rw [if_pos h]; simp; omega
  · rw [if_neg h]; simp; omega
theorem rd_get (xs : List Int) (i : Int) (h0 : 0 ≤ i) (h1 : i < (xs.length : Int)) : xs[i.toNat]? = some (rd xs i) := by
  have h : i.toNat < xs.length := by omega
  unfold Go.Proofs.YtakejkdkchlanaaW.PrintWords.rd
  rw [List.getD_eq_getElem?_getD, List.getElem?_eq_getElem h]
  rfl
theorem toInt_loop (l : List Int) (sz : (l.length : Int) ≤ 140737488351232) (d : Nat) : ∀ (k : Nat) (x : List Int) (i : Int), 0 ≤ i → i ≤ l.length → (l.length : Int) - i = d → d < k → x.length = l.length → (∀ j : Nat, (j : Int) < i → x[j]? = l[j]?) →
    laws_toIntS.l0 k l x i = some l := by
  induction d with
  | zero =>
    intro k x i h0 h1 hd hk hl hx
    obtain ⟨k, rfl⟩ : ∃ m, k = m + 1 := ⟨k - 1, by omega⟩
    simp only [laws_toIntS.l0]
    rw [if_neg (by omega)]
    congr 1
    apply List.ext_getElem?
    intro j
    by_cases hj : (j : Int) < i
    · exact hx j hj
    · rw [List.getElem?_eq_none (by omega), List.getElem?_eq_none (by omega)]
  | succ d ih =>
    intro k x i h0 h1 hd hk hl hx
    obtain ⟨k, rfl⟩ : ∃ m, k = m + 1 := ⟨k - 1, by omega⟩
    simp only [laws_toIntS.l0]
    rw [if_pos (by omega), if_pos h0, if_pos (by omega), w64 (n := i + 1) (by omega) (by omega)]
    refine ih k _ (i + 1) (by omega) (by omega) (by omega) (by omega) (by simp [hl]) ?_
    intro j hj
    by_cases e : (j : Int) = i
    · have e2 : j = i.toNat := by omega
      subst e2
      rw [rd_get l i h0 (by omega), List.getElem?_set_self (by omega)]
    · rw [List.getElem?_set_ne (by omega)]
      exact hx j (by omega)
theorem toInt_tells (l : List Int) (h : (l.length : Int) ≤ 1048576) : ∀ k, l.length < k → laws_toIntS.f k l = some l := by
  intro k hk
  unfold laws_toIntS.f
  rw [if_pos (by omega), if_pos (by omega)]
  exact toInt_loop l (by omega) l.length k _ 0 (by omega) (by omega) (by omega) hk (by simp) (fun j hj => by omega)
theorem eqInt_loop (l : List Int) (sz : (l.length : Int) ≤ 140737488351232) (d : Nat) : ∀ (k : Nat) (i : Int), 0 ≤ i → i ≤ l.length → (l.length : Int) - i = d → d < k → laws_eqIntS.l0 k l l i = some true := by
  induction d with
  | zero =>
    intro k i h0 h1 hd hk
    obtain ⟨k, rfl⟩ : ∃ m, k = m + 1 := ⟨k - 1, by omega⟩
    simp only [laws_eqIntS.l0]
    rw [if_neg (by omega)]
  | succ d ih =>
    intro k i h0 h1 hd hk
    obtain ⟨k, rfl⟩ : ∃ m, k = m + 1 := ⟨k - 1, by omega⟩
    simp only [laws_eqIntS.l0]
    rw [if_pos (by omega), if_pos h0, if_pos (by omega), if_pos trivial, w64 (n := i + 1) (by omega) (by omega)]
    exact ih k (i + 1) (by omega) (by omega) (by omega) (by omega)
theorem eqInt_self (l : List Int) (sz : (l.length : Int) ≤ 140737488351232) : ∀ k, l.length < k → laws_eqIntS.f k l l = some true := by
  intro k hk
  unfold laws_eqIntS.f
  rw [if_pos rfl]
  exact eqInt_loop l sz l.length k 0 (by omega) (by omega) (by omega) hk
/-- Eight values. -/
def vok (l : List Int) : Bool := decide (l.length = 8) && l.all fun x => decide (-1000000 ≤ x ∧ x ≤ 1000000)
theorem ivars (l : List Int) : impl_VarsOk.f l = some (vok l) := by
  unfold impl_VarsOk.f impl_areValues.f vok
  by_cases h : (l.length : Int) = 8
  · rw [if_pos h]
    have : l.length = 8 := by omega
    simp [this]
  · rw [if_neg h]
    have : ¬ l.length = 8 := by omega
    simp [this]
theorem svars_loop (l : List Int) (sz : (l.length : Int) ≤ 140737488351232) (d : Nat) : ∀ (k : Nat) (i : Int), 0 ≤ i → i ≤ l.length → (l.length : Int) - i = d → d < k → (∀ j : Nat, (j : Int) < i → decide (-1000000 ≤ rd l j ∧ rd l j ≤ 1000000) = true) →
    spec_VarsOk.l0 k l i = some (vok l) := by
  induction d with
  | zero =>
    intro k i h0 h1 hd hk hA
    obtain ⟨k, rfl⟩ : ∃ m, k = m + 1 := ⟨k - 1, by omega⟩
    simp only [spec_VarsOk.l0]
    rw [if_neg (by omega)]
    have h := impl_areValues.none l i (by omega) hA
    unfold vok
    rw [h, Bool.and_true]
    congr 1
    by_cases e : l.length = 8
    · simp [e]
    · have : ¬ (l.length : Int) = 8 := by omega
      simp [e, this]
  | succ d ih =>
    intro k i h0 h1 hd hk hA
    obtain ⟨k, rfl⟩ : ∃ m, k = m + 1 := ⟨k - 1, by omega⟩
    simp only [spec_VarsOk.l0]
    rw [if_pos (by omega), if_pos h0]
    unfold spec_IsValue.f
    rw [in_eq]
    simp only [Option.bind_some]
    by_cases c : decide (-1000000 ≤ rd l i ∧ rd l i ≤ 1000000) = true
    · rw [if_pos c, w64 (n := i + 1) (by omega) (by omega)]
      exact ih k (i + 1) (by omega) (by omega) (by omega) (by omega) (impl_areValues.before l i h0 (by omega) hA c)
    · rw [if_neg c]
      have h := impl_areValues.some_ l i h0 (by omega) (Bool.eq_false_iff.mpr c)
      unfold vok
      rw [h, Bool.and_false]
theorem svars (l : List Int) (sz : (l.length : Int) ≤ 140737488351232) : ∀ k, l.length < k → spec_VarsOk.f k l = some (vok l) := by
  intro k hk
  unfold spec_VarsOk.f
  exact svars_loop l sz l.length k 0 (by omega) (by omega) (by omega) hk (fun j hj => by omega)
theorem vok_len {l : List Int} (h : vok l = true) : l.length = 8 := by
  unfold vok at h
  rw [Bool.and_eq_true] at h
  exact of_decide_eq_true h.1
theorem vok_in {l : List Int} (h : vok l = true) (i : Int) (h0 : 0 ≤ i) (h1 : i < 8) : -1000000 ≤ rd l i ∧ rd l i ≤ 1000000 := by
  have hl := vok_len h
  unfold vok at h
  rw [Bool.and_eq_true, List.all_eq_true] at h
  have hi : i.toNat < l.length := by omega
  have h2 := h.2 _ (List.getElem_mem hi)
  have hr : rd l i = l[i.toNat] := by
    unfold Go.Proofs.YtakejkdkchlanaaW.PrintWords.rd
    rw [List.getD_eq_getElem?_getD, List.getElem?_eq_getElem hi]
    rfl
  rw [hr]
  exact of_decide_eq_true h2
/-- A valid expression. -/
def eok (o a b : Int) : Bool := decide (1 ≤ o ∧ o ≤ 7) && (decide (-8 ≤ a ∧ a ≤ 999) && decide (-8 ≤ b ∧ b ≤ 999))
theorem iexpr (o a b : Int) : impl_ExprOk.f o a b = some (eok o a b) := by
  unfold impl_ExprOk.f impl_OperandOk.f eok
  simp only [within_eq, Option.bind_some]
  cases decide (1 ≤ o ∧ o ≤ 7) <;> cases decide (-8 ≤ a ∧ a ≤ 999) <;> simp
theorem eok_in {o a b : Int} (h : eok o a b = true) : (1 ≤ o ∧ o ≤ 7) ∧ (-8 ≤ a ∧ a ≤ 999) ∧ (-8 ≤ b ∧ b ≤ 999) := by
  unfold eok at h
  simp only [Bool.and_eq_true, decide_eq_true_eq] at h
  exact h
theorem sexpr (o a b : Int) : spec_ExprOk.f o a b = some (eok o a b) := by
  unfold spec_ExprOk.f spec_OperandOk.f eok
  simp only [in_eq, Option.bind_some]
  cases decide (1 ≤ o ∧ o ≤ 7) <;> cases decide (-8 ≤ a ∧ a ≤ 999) <;> simp
/-- A number clamped to a range. -/
def cl (a b c : Int) : Int := if c < b then b else if a < b then b else if c < a then c else a
/-- A number clamped to the range of values. -/
def sat (a : Int) : Int := cl a (-1000000) 1000000
theorem sat_in (a : Int) : -1000000 ≤ sat a ∧ sat a ≤ 1000000 := by unfold sat cl; omega
theorem sat_id {a : Int} (h1 : -1000000 ≤ a) (h2 : a ≤ 1000000) : sat a = a := by unfold sat cl; omega
theorem iclamp (a b c : Int) : impl_Clamp.f a b c = some (cl a b c) := by
  unfold impl_Clamp.f cl Go.Proofs.YtakejkdkchlanaaW.PrintWords.mx Go.Proofs.YtakejkdkchlanaaW.PrintWords.mn
  by_cases h : c < b
  · rw [if_pos h, if_pos h]
  · rw [if_neg h, if_neg h]
    congr 1
    by_cases h1 : a < b
    · simp only [if_pos h1]; rw [if_neg (by omega)]
    · simp only [if_neg h1]
theorem sclamp (k : Nat) (hk : 1 ≤ k) (a b c : Int) : spec_Clamp.f k a b c = some (cl a b c) := by
  obtain ⟨k, rfl⟩ : ∃ m, k = m + 1 := ⟨k - 1, by omega⟩
  unfold spec_Clamp.f cl
  by_cases h : c < b
  · rw [if_pos h, if_pos h]; simp [spec_Clamp.j0]
  · rw [if_neg h, if_neg h]
    simp only [spec_Clamp.j0]
    by_cases h1 : a < b
    · simp [h1]
    · by_cases h2 : a > c
      · simp [h1, h2]
      · have h3 : ¬ c < a := by omega
        simp [h1, h3]
theorem isat (a : Int) : impl_Saturate.f a = some (sat a) := by
  unfold impl_Saturate.f sat; rw [iclamp]; rfl
theorem ssat (k : Nat) (hk : 1 ≤ k) (a : Int) : spec_Saturate.f k a = some (sat a) := by
  unfold spec_Saturate.f sat; rw [sclamp k hk]; rfl
/-- The value of a valid operand. -/
def opd (l : List Int) (n : Int) : Int := if n < 0 then rd l (-1 - n) else n
/-- The value of an expression; 0 where it or the variables are not valid. -/
def evx (l : List Int) (o a b : Int) : Int :=
  if (vok l && eok o a b) = true then
    if o = 1 then sat (sat (opd l a) + sat (opd l b)) else if o = 2 then sat (sat (opd l a) - sat (opd l b)) else if o = 3 then sat (sat (opd l a) * sat (opd l b))
    else if o = 4 then mn (opd l a) (opd l b) else if o = 5 then mx (opd l a) (opd l b) else if o = 6 then (if opd l a < opd l b then 1 else 0) else (if opd l a = opd l b then 1 else 0)
  else 0
theorem iopd {l : List Int} {n : Int} (hl : l.length = 8) (hn : -8 ≤ n ∧ n ≤ 999) : impl_operand.f l n = some (opd l n) := by
  unfold impl_operand.f opd
  by_cases c : n < 0
  · rw [if_pos c, if_pos c, w64 (by omega) (by omega), if_pos (by omega), if_pos (by omega)]
  · rw [if_neg c, if_neg c]
theorem sopd {l : List Int} {n : Int} (hl : l.length = 8) (hn : -8 ≤ n ∧ n ≤ 999) : spec_l03Value.f l n = some (opd l n) := by
  unfold spec_l03Value.f opd
  by_cases c : n < 0
  · rw [if_pos c, if_pos c, w64 (by omega) (by omega), if_pos (by omega), if_pos (by omega)]
  · rw [if_neg c, if_neg c]
theorem sat64 (a b : Int) : wrap64 (sat a + sat b) = sat a + sat b ∧ wrap64 (sat a - sat b) = sat a - sat b ∧ wrap64 (sat a * sat b) = sat a * sat b := by
  have h1 := sat_in a; have h2 := sat_in b
  refine ⟨w64 (by omega) (by omega), w64 (by omega) (by omega), ?_⟩
  have h3 : (sat a).natAbs ≤ 1000000 := by omega
  have h4 : (sat b).natAbs ≤ 1000000 := by omega
  have h5 : (sat a * sat b).natAbs ≤ 1000000 * 1000000 := by rw [Int.natAbs_mul]; exact Nat.mul_le_mul h3 h4
  exact w64 (by omega) (by omega)
theorem ieval (l : List Int) (o a b : Int) (k : Nat) (hk : 1 ≤ k) : impl_EvalExpr.f k l o a b = some (evx l o a b) := by
  obtain ⟨k, rfl⟩ : ∃ m, k = m + 1 := ⟨k - 1, by omega⟩
  unfold impl_EvalExpr.f evx
  rw [ivars]
  simp only [Option.bind_some]
  cases hv : vok l with
  | false => simp [impl_EvalExpr.j0, hv]
  | true =>
    rw [iexpr]
    cases he : eok o a b with
    | false => simp [impl_EvalExpr.j0, hv, he]
    | true =>
      have hl := vok_len hv
      obtain ⟨ho, ha, hb⟩ := eok_in he
      simp only [impl_EvalExpr.j0, Option.bind_some, Bool.not_true, Bool.false_eq_true, if_false, if_true, Bool.and_self, iopd hl ha, iopd hl hb]
      unfold impl_AddValues.f impl_SubValues.f impl_MulValues.f impl_bit.f
      simp only [isat, Option.bind_some, (sat64 _ _).1, (sat64 _ _).2.1, (sat64 _ _).2.2]
      by_cases h1 : o = 1
      · simp only [if_pos h1]
      · simp only [if_neg h1]
        by_cases h2 : o = 2
        · simp only [if_pos h2]
        · simp only [if_neg h2]
          by_cases h3 : o = 3
          · simp only [if_pos h3]
          · simp only [if_neg h3]
            by_cases h4 : o = 4
            · simp only [if_pos h4]
            · simp only [if_neg h4]
              by_cases h5 : o = 5
              · simp only [if_pos h5]
              · simp only [if_neg h5]
                by_cases h6 : o = 6
                · simp only [if_pos h6]
                  by_cases c : opd l a < opd l b
                  · simp [c]
                  · simp [c]
                · simp only [if_neg h6]
                  by_cases c : opd l a = opd l b
                  · simp [c]
                  · simp [c]
theorem seval (l : List Int) (o a b : Int) (sz : (l.length : Int) ≤ 140737488351232) (k : Nat) (hk : l.length < k) : spec_EvalExpr.f k l o a b = some (evx l o a b) := by
  unfold spec_EvalExpr.f evx
  rw [svars l sz _ hk]
  simp only [Option.bind_some]
  cases hv : vok l with
  | false => simp [hv]
  | true =>
    rw [sexpr]
    cases he : eok o a b with
    | false => simp [hv, he]
    | true =>
      have hl := vok_len hv
      obtain ⟨ho, ha, hb⟩ := eok_in he
      simp only [Option.bind_some, if_true, Bool.and_self]
      have hk1 : 1 ≤ k := by omega
      unfold spec_l03Eval.f spec_AddValues.f spec_SubValues.f spec_MulValues.f spec_l03Bit.f
      simp only [sopd hl ha, sopd hl hb, ssat k hk1, Option.bind_some, (sat64 _ _).1, (sat64 _ _).2.1, (sat64 _ _).2.2]
      by_cases h1 : o = 1
      · simp only [if_pos h1, Option.bind_some]
      · simp only [if_neg h1]
        by_cases h2 : o = 2
        · simp only [if_pos h2, Option.bind_some]
        · simp only [if_neg h2]
          by_cases h3 : o = 3
          · simp only [if_pos h3, Option.bind_some]
          · simp only [if_neg h3]
            by_cases h4 : o = 4
            · simp only [if_pos h4, Option.bind_some]
            · simp only [if_neg h4]
              by_cases h5 : o = 5
              · simp only [if_pos h5, Option.bind_some]
              · simp only [if_neg h5]
                by_cases h6 : o = 6
                · simp only [if_pos h6]
                  by_cases c : opd l a < opd l b
                  · simp [c]
                  · simp [c]
                · simp only [if_neg h6]
                  by_cases c : opd l a = opd l b
                  · simp [c]
                  · simp [c]
theorem FnExactEvalExpr : laws_FnExactEvalExpr.Pure := by
  intro l o a b _ _ _ _ _
  by_cases c : (l.length : Int) > 1048576
  · exact ⟨0, by unfold laws_FnExactEvalExpr.f; rw [if_pos c]⟩
  · refine ⟨l.length + 60, ?_⟩
    have hT := toInt_tells l (by omega)
    have hE := eqInt_self l (by omega)
    unfold laws_FnExactEvalExpr.f laws_toExpr.f
    rw [if_neg c, hT _ (by omega)]
    simp only [Option.bind_some]
    rw [seval l o a b (by omega) _ (by omega), ieval l o a b _ (by omega), hE _ (by omega)]
    simp

end Go.Proofs.Ytakejkdkchlanaa.Pure
