/- The program's NextTask and the reference's return the same for all programs, slices and tasks, and leave them as they were; no condition. -/
import Derived.Test.YtkjdhmffknahgaaPFnExactNextTaskx12
namespace Go.Proofs.Ytkjdhmffknahgaa.Pure
open Go.RowKit Go.Proofs.Ytkjdhmffknahgaa.PFnExactNextTask Go.Proofs.YtkjdhmffknahgaaW.PrintWords Go.Proofs.YtkjdhmffknahgaaW.PrintLast
set_option linter.unusedVariables false
set_option linter.unusedSimpArgs false

theorem w64 {n : Int} (h1 : -9223372036854775808 ≤ n) (h2 : n ≤ 9223372036854775807) : wrap64 n = n := by unfold wrap64; omega
theorem w64_in (n : Int) : -9223372036854775808 ≤ wrap64 n ∧ wrap64 n ≤ 9223372036854775807 := by unfold wrap64; omega
theorem wf64 {n : Int} (h : (Lit.int .i64 n).wf = true) : -9223372036854775808 ≤ n ∧ n ≤ 9223372036854775807 := by
  simp only [Lit.wf, IntKind.min, IntKind.max, IntKind.signed, IntKind.bits, Bool.and_eq_true, decide_eq_true_eq, if_true] at h
  omega
theorem wfu8 {n : Int} (h : (Lit.int .u8 n).wf = true) : 0 ≤ n ∧ n ≤ 255 := by
  simp [Lit.wf, IntKind.min, IntKind.max, IntKind.signed, IntKind.bits] at h
  omega
theorem and_in (x : Int) (m : Nat) (hm : m < 9223372036854775808) : 0 ≤ Go.bits .and .i64 x (m : Int) ∧ Go.bits .and .i64 x (m : Int) ≤ m := by
  have h1 : (BitVec.ofInt 64 x &&& BitVec.ofInt 64 (m : Int)).toNat ≤ m := by
    rw [BitVec.toNat_and]
    refine Nat.le_trans Nat.and_le_right ?_
    rw [BitVec.ofInt_natCast, BitVec.toNat_ofNat]
    exact Nat.mod_le _ _
  have h2 : Go.bits .and .i64 x (m : Int) = IntKind.i64.wrap (((BitVec.ofInt 64 x &&& BitVec.ofInt 64 (m : Int)).toNat : Nat) : Int) := rfl
  rw [h2, Go.IntKind.wrap_i64]
  omega
theorem and255 (x : Int) : 0 ≤ Go.bits .and .i64 x 255 ∧ Go.bits .and .i64 x 255 ≤ 255 := and_in x 255 (by decide)
theorem tmod_in (x n : Int) (h0 : 0 ≤ x) (h : 1 ≤ n) : 0 ≤ Int.tmod x n ∧ Int.tmod x n < n := ⟨Int.tmod_nonneg _ h0, Int.tmod_lt_of_pos _ (by omega)⟩
theorem in_eq (a b c : Int) : spec_l01In.f a b c = some (decide (b ≤ a ∧ a ≤ c)) := by
  unfold spec_l01In.f
  by_cases h : a ≥ b
  · rw [if_pos h]; simp; omega
  · rw [if_neg h]; simp; omega
theorem within_eq (a b c : Int) : impl_within.f a b c = some (decide (b ≤ a ∧ a ≤ c)) := by
  unfold impl_within.f
  by_cases h : a ≥ b
  · rw [if_pos h]; simp; omega
  · rw [if_neg h]; simp; omega
theorem rd_get (xs : List Int) (i : Int) (h0 : 0 ≤ i) (h1 : i < (xs.length : Int)) : xs[i.toNat]? = some (rd xs i) := by
  have h : i.toNat < xs.length := by omega
  unfold Go.Proofs.YtkjdhmffknahgaaW.PrintWords.rd
  rw [List.getD_eq_getElem?_getD, List.getElem?_eq_getElem h]
  rfl
theorem toInt_loop (l : List Int) (sz : (l.length : Int) ≤ 140737488351232) (d : Nat) : ∀ (k : Nat) (x : List Int) (i : Int), 0 ≤ i → i ≤ l.length → (l.length : Int) - i = d → d < k → x.length = l.length → (∀ j : Nat, (j : Int) < i → x[j]? = l[j]?) →
    laws_toIntS.l0 k l x i = some l := by
  induction d with
  | zero =>
    intro k x i h0 h1 hd hk hl hx
    obtain ⟨k, rfl⟩ : ∃ m, k = m + 1 := ⟨k - 1, by omega⟩
    simp only [laws_toIntS.l0]
    rw [if_neg (by omega)]
    congr 1
    apply List.ext_getElem?
    intro j
    by_cases hj : (j : Int) < i
    · exact hx j hj
    · rw [List.getElem?_eq_none (by omega), List.getElem?_eq_none (by omega)]
  | succ d ih =>
    intro k x i h0 h1 hd hk hl hx
    obtain ⟨k, rfl⟩ : ∃ m, k = m + 1 := ⟨k - 1, by omega⟩
    simp only [laws_toIntS.l0]
    rw [if_pos (by omega), if_pos h0, if_pos (by omega), w64 (n := i + 1) (by omega) (by omega)]
    refine ih k _ (i + 1) (by omega) (by omega) (by omega) (by omega) (by simp [hl]) ?_
    intro j hj
    by_cases e : (j : Int) = i
    · have e2 : j = i.toNat := by omega
      subst e2
      rw [rd_get l i h0 (by omega), List.getElem?_set_self (by omega)]
    · rw [List.getElem?_set_ne (by omega)]
      exact hx j (by omega)
theorem toInt_tells (l : List Int) (h : (l.length : Int) ≤ 1048576) : ∀ k, l.length < k → laws_toIntS.f k l = some l := by
  intro k hk
  unfold laws_toIntS.f
  rw [if_pos (by omega), if_pos (by omega)]
  exact toInt_loop l (by omega) l.length k _ 0 (by omega) (by omega) (by omega) hk (by simp) (fun j hj => by omega)
theorem eqInt_loop (l : List Int) (sz : (l.length : Int) ≤ 140737488351232) (d : Nat) : ∀ (k : Nat) (i : Int), 0 ≤ i → i ≤ l.length → (l.length : Int) - i = d → d < k → laws_eqIntS.l0 k l l i = some true := by
  induction d with
  | zero =>
    intro k i h0 h1 hd hk
    obtain ⟨k, rfl⟩ : ∃ m, k = m + 1 := ⟨k - 1, by omega⟩
    simp only [laws_eqIntS.l0]
    rw [if_neg (by omega)]
  | succ d ih =>
    intro k i h0 h1 hd hk
    obtain ⟨k, rfl⟩ : ∃ m, k = m + 1 := ⟨k - 1, by omega⟩
    simp only [laws_eqIntS.l0]
    rw [if_pos (by omega), if_pos h0, if_pos (by omega), if_pos trivial, w64 (n := i + 1) (by omega) (by omega)]
    exact ih k (i + 1) (by omega) (by omega) (by omega) (by omega)
theorem eqInt_self (l : List Int) (sz : (l.length : Int) ≤ 140737488351232) : ∀ k, l.length < k → laws_eqIntS.f k l l = some true := by
  intro k hk
  unfold laws_eqIntS.f
  rw [if_pos rfl]
  exact eqInt_loop l sz l.length k 0 (by omega) (by omega) (by omega) hk
/-- Eight values. -/
def vok (l : List Int) : Bool := decide (l.length = 8) && l.all fun x => decide (-1000000 ≤ x ∧ x ≤ 1000000)
theorem ivars (l : List Int) : impl_VarsOk.f l = some (vok l) := by
  unfold impl_VarsOk.f impl_areValues.f vok
  by_cases h : (l.length : Int) = 8
  · rw [if_pos h]
    have : l.length = 8 := by omega
    simp [this]
  · rw [if_neg h]
    have : ¬ l.length = 8 := by omega
    simp [this]
theorem svars_loop (l : List Int) (sz : (l.length : Int) ≤ 140737488351232) (d : Nat) : ∀ (k : Nat) (i : Int), 0 ≤ i → i ≤ l.length → (l.length : Int) - i = d → d < k → (∀ j : Nat, (j : Int) < i → decide (-1000000 ≤ rd l j ∧ rd l j ≤ 1000000) = true) →
    spec_VarsOk.l0 k l i = some (vok l) := by
  induction d with
  | zero =>
    intro k i h0 h1 hd hk hA
    obtain ⟨k, rfl⟩ : ∃ m, k = m + 1 := ⟨k - 1, by omega⟩
    simp only [spec_VarsOk.l0]
    rw [if_neg (by omega)]
    have h := impl_areValues.none l i (by omega) hA
    unfold vok
    rw [h, Bool.and_true]
    congr 1
    by_cases e : l.length = 8
    · simp [e]
    · have : ¬ (l.length : Int) = 8 := by omega
      simp [e, this]
  | succ d ih =>
    intro k i h0 h1 hd hk hA
    obtain ⟨k, rfl⟩ : ∃ m, k = m + 1 := ⟨k - 1, by omega⟩
    simp only [spec_VarsOk.l0]
    rw [if_pos (by omega), if_pos h0]
    unfold spec_IsValue.f
    rw [in_eq]
    simp only [Option.bind_some]
    by_cases c : decide (-1000000 ≤ rd l i ∧ rd l i ≤ 1000000) = true
    · rw [if_pos c, w64 (n := i + 1) (by omega) (by omega)]
      exact ih k (i + 1) (by omega) (by omega) (by omega) (by omega) (impl_areValues.before l i h0 (by omega) hA c)
    · rw [if_neg c]
      have h := impl_areValues.some_ l i h0 (by omega) (Bool.eq_false_iff.mpr c)
      unfold vok
      rw [h, Bool.and_false]
theorem svars (l : List Int) (sz : (l.length : Int) ≤ 140737488351232) : ∀ k, l.length < k → spec_VarsOk.f k l = some (vok l) := by
  intro k hk
  unfold spec_VarsOk.f
  exact svars_loop l sz l.length k 0 (by omega) (by omega) (by omega) hk (fun j hj => by omega)
theorem vok_len {l : List Int} (h : vok l = true) : l.length = 8 := by
  unfold vok at h
  rw [Bool.and_eq_true] at h
  exact of_decide_eq_true h.1
theorem vok_in {l : List Int} (h : vok l = true) (i : Int) (h0 : 0 ≤ i) (h1 : i < 8) : -1000000 ≤ rd l i ∧ rd l i ≤ 1000000 := by
  have hl := vok_len h
  unfold vok at h
  rw [Bool.and_eq_true, List.all_eq_true] at h
  have hi : i.toNat < l.length := by omega
  have h2 := h.2 _ (List.getElem_mem hi)
  have hr : rd l i = l[i.toNat] := by
    unfold Go.Proofs.YtkjdhmffknahgaaW.PrintWords.rd
    rw [List.getD_eq_getElem?_getD, List.getElem?_eq_getElem hi]
    rfl
  rw [hr]
  exact of_decide_eq_true h2
/-- A valid expression. -/
def eok (o a b : Int) : Bool := decide (1 ≤ o ∧ o ≤ 7) && (decide (-8 ≤ a ∧ a ≤ 999) && decide (-8 ≤ b ∧ b ≤ 999))
theorem iexpr (o a b : Int) : impl_ExprOk.f o a b = some (eok o a b) := by
  unfold impl_ExprOk.f impl_OperandOk.f eok
  simp only [within_eq, Option.bind_some]
  cases decide (1 ≤ o ∧ o ≤ 7) <;> cases decide (-8 ≤ a ∧ a ≤ 999) <;> simp
theorem eok_in {o a b : Int} (h : eok o a b = true) : (1 ≤ o ∧ o ≤ 7) ∧ (-8 ≤ a ∧ a ≤ 999) ∧ (-8 ≤ b ∧ b ≤ 999) := by
  unfold eok at h
  simp only [Bool.and_eq_true, decide_eq_true_eq] at h
  exact h
theorem sexpr (o a b : Int) : spec_ExprOk.f o a b = some (eok o a b) := by
  unfold spec_ExprOk.f spec_OperandOk.f eok
  simp only [in_eq, Option.bind_some]
  cases decide (1 ≤ o ∧ o ≤ 7) <;> cases decide (-8 ≤ a ∧ a ≤ 999) <;> simp
/-- A number clamped to a range. -/
def cl (a b c : Int) : Int := if c < b then b else if a < b then b else if c < a then c else a
/-- A number clamped to the range of values. -/
def sat (a : Int) : Int := cl a (-1000000) 1000000
theorem sat_in (a : Int) : -1000000 ≤ sat a ∧ sat a ≤ 1000000 := by unfold sat cl; omega
theorem sat_id {a : Int} (h1 : -1000000 ≤ a) (h2 : a ≤ 1000000) : sat a = a := by unfold sat cl; omega
theorem iclamp (a b c : Int) : impl_Clamp.f a b c = some (cl a b c) := by
  unfold impl_Clamp.f cl Go.Proofs.YtkjdhmffknahgaaW.PrintWords.mx Go.Proofs.YtkjdhmffknahgaaW.PrintWords.mn
  by_cases h : c < b
  · rw [if_pos h, if_pos h]
  · rw [if_neg h, if_neg h]
    congr 1
    by_cases h1 : a < b
    · simp only [if_pos h1]; rw [if_neg (by omega)]
    · simp only [if_neg h1]
theorem sclamp (k : Nat) (hk : 1 ≤ k) (a b c : Int) : spec_Clamp.f k a b c = some (cl a b c) := by
  obtain ⟨k, rfl⟩ : ∃ m, k = m + 1 := ⟨k - 1, by omega⟩
  unfold spec_Clamp.f cl
  by_cases h : c < b
  · rw [if_pos h, if_pos h]; simp [spec_Clamp.j0]
  · rw [if_neg h, if_neg h]
    simp only [spec_Clamp.j0]
    by_cases h1 : a < b
    · simp [h1]
    · by_cases h2 : a > c
      · simp [h1, h2]
      · have h3 : ¬ c < a := by omega
        simp [h1, h3]
theorem isat (a : Int) : impl_Saturate.f a = some (sat a) := by
  unfold impl_Saturate.f sat; rw [iclamp]; rfl
theorem ssat (k : Nat) (hk : 1 ≤ k) (a : Int) : spec_Saturate.f k a = some (sat a) := by
  unfold spec_Saturate.f sat; rw [sclamp k hk]; rfl
/-- A valid statement. -/
def zok (o a b : Int) : Bool := decide (o = 0) && (decide (a = 0) && decide (b = 0))
def sok (c v n o a b : Int) : Bool :=
  if c = 1 then decide (0 ≤ v ∧ v ≤ 7) && (decide (n = 0) && eok o a b)
  else if c = 2 then decide (0 ≤ v ∧ v ≤ 7) && (decide (0 ≤ n ∧ n ≤ 3) && zok o a b)
  else if c = 3 then decide (v = 0) && (decide (n = 0) && eok o a b)
  else if c = 4 then decide (v = 0) && (decide (n = 0) && eok o a b)
  else if c = 5 then decide (v = 0) && (decide (1 ≤ n ∧ n ≤ 5) && zok o a b)
  else if c = 6 then decide (v = 0) && (decide (n = 0) && zok o a b)
  else false
theorem hasVar_eq (c : Int) : impl_hasVar.f c = some (decide (c = 1 ∨ c = 2)) := by
  unfold impl_hasVar.f
  by_cases h : c = 1
  · rw [if_pos h]; simp [h]
  · rw [if_neg h]; simp [h]; rfl
theorem hasExpr_eq (c : Int) : impl_hasExpr.f c = some (decide (c = 1 ∨ c = 3 ∨ c = 4)) := by
  unfold impl_hasExpr.f
  by_cases h : c = 1
  · rw [if_pos h]; simp [h]
  · rw [if_neg h]
    by_cases h2 : c = 3
    · rw [if_pos h2]; simp [h2]
    · rw [if_neg h2]; simp [h, h2]; rfl
theorem isVar_eq (v : Int) : impl_isVar.f v = some (decide (0 ≤ v ∧ v ≤ 7)) := by
  unfold impl_isVar.f; rw [within_eq]; rfl
theorem isSensor_eq (v : Int) : impl_isSensor.f v = some (decide (0 ≤ v ∧ v ≤ 3)) := by
  unfold impl_isSensor.f; rw [within_eq]; rfl
theorem istmt (c v n o a b : Int) (k : Nat) (hk : 2 ≤ k) : impl_StmtOk.f k c v n o a b = some (sok c v n o a b) := by
  obtain ⟨k, rfl⟩ : ∃ m, k = m + 2 := ⟨k - 2, by omega⟩
  unfold impl_StmtOk.f sok zok
  simp only [within_eq, hasVar_eq, isVar_eq, hasExpr_eq, isSensor_eq, iexpr, Option.bind_some, impl_StmtOk.j0, impl_StmtOk.j1]
  by_cases h1 : c = 1
  · subst h1
    cases decide (0 ≤ v ∧ v ≤ 7) <;> cases eok o a b <;> by_cases hn : n = 0 <;> simp [hn]
  · by_cases h2 : c = 2
    · subst h2
      cases decide (0 ≤ v ∧ v ≤ 7) <;> cases decide (0 ≤ n ∧ n ≤ 3) <;> by_cases ho : o = 0 <;> by_cases ha : a = 0 <;> by_cases hb : b = 0 <;> simp [ho, ha, hb]
    · by_cases h3 : c = 3
      · subst h3
        cases eok o a b <;> by_cases hn : n = 0 <;> by_cases hv : v = 0 <;> simp [hn, hv]
      · by_cases h4 : c = 4
        · subst h4
          cases eok o a b <;> by_cases hn : n = 0 <;> by_cases hv : v = 0 <;> simp [hn, hv]
        · by_cases h5 : c = 5
          · subst h5
            cases decide (1 ≤ n ∧ n ≤ 5) <;> by_cases hv : v = 0 <;> by_cases ho : o = 0 <;> by_cases ha : a = 0 <;> by_cases hb : b = 0 <;> simp [hv, ho, ha, hb]
          · by_cases h6 : c = 6
            · subst h6
              by_cases hn : n = 0 <;> by_cases hv : v = 0 <;> by_cases ho : o = 0 <;> by_cases ha : a = 0 <;> by_cases hb : b = 0 <;> simp [hn, hv, ho, ha, hb]
            · have hw : ¬ (1 ≤ c ∧ c ≤ 6) := by omega
              simp [h1, h2, h3, h4, h5, h6, hw]
theorem sstmt (c v n o a b : Int) (k : Nat) (hk : 2 ≤ k) : spec_StmtOk.f k c v n o a b = some (sok c v n o a b) := by
  obtain ⟨k, rfl⟩ : ∃ m, k = m + 2 := ⟨k - 2, by omega⟩
  unfold spec_StmtOk.f spec_l04Plain.f sok zok
  simp only [in_eq, sexpr, Option.bind_some, spec_StmtOk.j0]
  by_cases h1 : c = 1
  · subst h1
    cases decide (0 ≤ v ∧ v ≤ 7) <;> cases eok o a b <;> by_cases hn : n = 0 <;> simp [hn]
  · by_cases h2 : c = 2
    · subst h2
      cases decide (0 ≤ v ∧ v ≤ 7) <;> cases decide (0 ≤ n ∧ n ≤ 3) <;> by_cases ho : o = 0 <;> by_cases ha : a = 0 <;> by_cases hb : b = 0 <;> simp [ho, ha, hb]
    · by_cases h3 : c = 3
      · subst h3
        cases eok o a b <;> by_cases hn : n = 0 <;> by_cases hv : v = 0 <;> simp [hn, hv]
      · by_cases h4 : c = 4
        · subst h4
          cases eok o a b <;> by_cases hn : n = 0 <;> by_cases hv : v = 0 <;> simp [hn, hv]
        · by_cases h5 : c = 5
          · subst h5
            cases decide (1 ≤ n ∧ n ≤ 5) <;> by_cases hv : v = 0 <;> by_cases ho : o = 0 <;> by_cases ha : a = 0 <;> by_cases hb : b = 0 <;> simp [hv, ho, ha, hb]
          · by_cases h6 : c = 6
            · subst h6
              by_cases hn : n = 0 <;> by_cases hv : v = 0 <;> by_cases ho : o = 0 <;> by_cases ha : a = 0 <;> by_cases hb : b = 0 <;> simp [hn, hv, ho, ha, hb]
            · by_cases hn : n = 0 <;> by_cases hv : v = 0 <;> by_cases ho : o = 0 <;> by_cases ha : a = 0 <;> by_cases hb : b = 0 <;> simp [h1, h2, h3, h4, h5, h6, hn, hv, ho, ha, hb]
theorem rd_app (pre : List S31) (a : S31) (t : List S31) : rd_T31 (pre ++ a :: t) (pre.length : Int) = a := by
  unfold rd_T31
  simp [List.getD]
def okS (s : S31) : Bool := sok s.f0 s.f1 s.f2 s.f3.f0 s.f3.f1 s.f3.f2
def opn (s : S31) : Bool := decide (s.f0 = 4 ∨ s.f0 = 5)
def del (s : S31) : Int := if s.f0 = 4 ∨ s.f0 = 5 then 1 else if s.f0 = 6 then -1 else 0
theorem del_in (s : S31) : -1 ≤ del s ∧ del s ≤ 1 := by unfold del; split <;> (try split) <;> omega
def scan : List S31 → Int → Option Int
  | [], d => some d
  | s :: t, d => if okS s = true then (if 0 ≤ d + del s ∧ d + del s ≤ 3 then scan t (d + del s) else none) else none
def fin (o : Option Int) (n : Nat) : Bool := decide (o = some 0) && decide (n ≤ 24)
/-- Whether the statements are a valid block. -/
def blk (l : List S31) : Bool := fin (scan l 0) l.length
theorem opening_eq (c : Int) : impl_isOpening.f c = some (decide (c = 4 ∨ c = 5)) := by
  unfold impl_isOpening.f
  by_cases h : c = 4
  · simp [h]
  · rw [if_neg h]; congr 1; rw [Bool.eq_iff_iff]; simp [h]
theorem iscan (suf : List S31) : ∀ (k : Nat) (pre x : List S31) (d : Int), x = pre ++ suf → x.length ≤ 140737488351232 → 2 * suf.length + 4 ≤ k → 0 ≤ d → d ≤ 3 →
    impl_BlockOk.l0 k x d x (x.length : Int) (pre.length : Int) = some (fin (scan suf d) x.length) := by
  induction suf with
  | nil =>
    intro k pre x d hx hz hk d0 d1
    obtain ⟨k, rfl⟩ : ∃ m, k = m + 1 := ⟨k - 1, by omega⟩
    have hl : x.length = pre.length := by simp [hx]
    unfold impl_BlockOk.l0
    rw [if_neg (by omega)]
    unfold scan fin
    by_cases c : d = 0
    · rw [if_pos c, c]; congr 1; simp; omega
    · rw [if_neg c]; simp [c]
  | cons a t ih =>
    intro k pre x d hx hz hk d0 d1
    simp only [List.length_cons] at hk
    obtain ⟨k, rfl⟩ : ∃ m, k = m + 2 := ⟨k - 2, by omega⟩
    have hl : x.length = pre.length + (t.length + 1) := by simp [hx]
    have hr : rd_T31 x (pre.length : Int) = a := by rw [hx]; exact rd_app pre a t
    have hn : ((pre.length : Int) + 1) = (((pre ++ [a]).length : Nat) : Int) := by simp
    unfold impl_BlockOk.l0
    rw [if_pos (by omega), if_pos (by omega), if_pos (by omega)]
    simp only [hr]
    rw [istmt _ _ _ _ _ _ _ (by omega)]
    simp only [Option.bind_some]
    have hs : ∀ e, scan (a :: t) e = if okS a = true then (if 0 ≤ e + del a ∧ e + del a ≤ 3 then scan t (e + del a) else none) else none := fun e => rfl
    rw [hs]
    by_cases ok : okS a = true
    · rw [if_pos ok]
      unfold okS at ok
      rw [if_pos ok, opening_eq]
      simp only [Option.bind_some, decide_eq_true_eq]
      have step : ∀ e : Int, 0 ≤ e → e ≤ 3 → impl_BlockOk.l0 k x e x (x.length : Int) (wrap64 ((pre.length : Int) + 1)) = some (fin (scan t e) x.length) := by
        intro e e0 e1
        rw [w64 (by omega) (by omega), hn]
        exact ih k (pre ++ [a]) x e (by simp [hx]) hz (by omega) e0 e1
      by_cases o : a.f0 = 4 ∨ a.f0 = 5
      · have hd : del a = 1 := by unfold del; rw [if_pos o]
        rw [if_pos o, hd, w64 (n := d + 1) (by omega) (by omega)]
        unfold impl_BlockOk.j1
        rw [if_neg (by omega), if_neg (by omega)]
        by_cases c : d + 1 > 3
        · rw [if_pos c, if_neg (by omega)]; simp [fin]
        · rw [if_neg c, if_pos (by omega)]
          exact step _ (by omega) (by omega)
      · rw [if_neg o]
        unfold impl_BlockOk.j1
        by_cases c6 : a.f0 = 6
        · have hd : del a = -1 := by unfold del; rw [if_neg o, if_pos c6]
          rw [if_pos c6, hd, w64 (n := d - 1) (by omega) (by omega)]
          by_cases c : d - 1 < 0
          · rw [if_pos c, if_neg (by omega)]; simp [fin]
          · rw [if_neg c, if_neg (by omega), if_pos (by omega)]
            exact step _ (by omega) (by omega)
        · have hd : del a = 0 := by unfold del; rw [if_neg o, if_neg c6]
          rw [if_neg c6, hd, if_neg (by omega), if_neg (by omega), if_pos (by omega), show d + 0 = d by omega]
          exact step _ (by omega) (by omega)
    · rw [if_neg ok]
      unfold okS at ok
      rw [if_neg ok]
      simp [fin]
theorem iblock (l : List S31) (hz : l.length ≤ 140737488351232) (k : Nat) (hk : 2 * l.length + 4 ≤ k) : impl_BlockOk.f k l = some (blk l) :=
  iscan l k [] l 0 rfl hz hk (by omega) (by omega)
theorem sscan (suf : List S31) : ∀ (k : Nat) (pre x : List S31) (d : Int), x = pre ++ suf → x.length ≤ 140737488351232 → 2 * suf.length + 4 ≤ k → 0 ≤ d → d ≤ 3 →
    spec_BlockOk.l0 k x d (pre.length : Int) = some (fin (scan suf d) x.length) := by
  induction suf with
  | nil =>
    intro k pre x d hx hz hk d0 d1
    obtain ⟨k, rfl⟩ : ∃ m, k = m + 1 := ⟨k - 1, by omega⟩
    have hl : x.length = pre.length := by simp [hx]
    unfold spec_BlockOk.l0
    rw [if_neg (by omega)]
    unfold scan fin
    by_cases c : d = 0
    · rw [if_pos c, c]; congr 1; simp; omega
    · rw [if_neg c]; simp [c]
  | cons a t ih =>
    intro k pre x d hx hz hk d0 d1
    simp only [List.length_cons] at hk
    obtain ⟨k, rfl⟩ : ∃ m, k = m + 2 := ⟨k - 2, by omega⟩
    have hl : x.length = pre.length + (t.length + 1) := by simp [hx]
    have hr : rd_T31 x (pre.length : Int) = a := by rw [hx]; exact rd_app pre a t
    have hn : ((pre.length : Int) + 1) = (((pre ++ [a]).length : Nat) : Int) := by simp
    unfold spec_BlockOk.l0
    rw [if_pos (by omega), if_pos (by omega)]
    simp only [hr]
    rw [sstmt _ _ _ _ _ _ _ (by omega)]
    simp only [Option.bind_some]
    have hs : ∀ e, scan (a :: t) e = if okS a = true then (if 0 ≤ e + del a ∧ e + del a ≤ 3 then scan t (e + del a) else none) else none := fun e => rfl
    rw [hs]
    by_cases ok : okS a = true
    · rw [if_pos ok]
      unfold okS at ok
      rw [if_pos ok]
      have step : ∀ e : Int, 0 ≤ e → e ≤ 3 → spec_BlockOk.l0 k x e (wrap64 ((pre.length : Int) + 1)) = some (fin (scan t e) x.length) := by
        intro e e0 e1
        rw [w64 (by omega) (by omega), hn]
        exact ih k (pre ++ [a]) x e (by simp [hx]) hz (by omega) e0 e1
      have hj : ∀ b : Bool, b = decide (a.f0 = 4 ∨ a.f0 = 5) → spec_BlockOk.j1 (k + 1) x d (pre.length : Int) a.f0 b = some (fin (if 0 ≤ d + del a ∧ d + del a ≤ 3 then scan t (d + del a) else none) x.length) := by
        intro b hb
        unfold spec_BlockOk.j1
        by_cases o : a.f0 = 4 ∨ a.f0 = 5
        · have hd : del a = 1 := by unfold del; rw [if_pos o]
          rw [if_pos (by rw [hb]; exact decide_eq_true o), hd, w64 (n := d + 1) (by omega) (by omega), in_eq]
          simp only [Option.bind_some, decide_eq_true_eq]
          by_cases c : 0 ≤ d + 1 ∧ d + 1 ≤ 3
          · rw [if_pos c, if_pos c]; exact step _ c.1 c.2
          · rw [if_neg c, if_neg c]; simp [fin]
        · rw [if_neg (by rw [hb]; simp; omega)]
          by_cases c6 : a.f0 = 6
          · have hd : del a = -1 := by unfold del; rw [if_neg o, if_pos c6]
            rw [if_pos c6, hd, w64 (n := d - 1) (by omega) (by omega), in_eq, show d + -1 = d - 1 by omega]
            simp only [Option.bind_some, decide_eq_true_eq]
            by_cases c : 0 ≤ d - 1 ∧ d - 1 ≤ 3
            · rw [if_pos c, if_pos c]; exact step _ c.1 c.2
            · rw [if_neg c, if_neg c]; simp [fin]
          · have hd : del a = 0 := by unfold del; rw [if_neg o, if_neg c6]
            rw [if_neg c6, hd, in_eq, show d + 0 = d by omega]
            simp only [Option.bind_some, decide_eq_true_eq]
            rw [if_pos ⟨d0, d1⟩, if_pos ⟨d0, d1⟩]; exact step _ d0 d1
      by_cases c4 : a.f0 = 4
      · rw [if_pos c4]
        exact hj _ (by simp [c4])
      · rw [if_neg c4]
        exact hj _ (by rw [Bool.eq_iff_iff]; simp [c4])
    · rw [if_neg ok]
      unfold okS at ok
      rw [if_neg ok]
      simp [fin]
theorem sblock (l : List S31) (hz : l.length ≤ 140737488351232) (k : Nat) (hk : 2 * l.length + 4 ≤ k) : spec_BlockOk.f k l = some (blk l) :=
  sscan l k [] l 0 rfl hz hk (by omega) (by omega)
def cnv (s : S72) : S31 := ⟨s.f0, s.f1, s.f2, ⟨s.f3.f0, s.f3.f1, s.f3.f2⟩⟩
theorem rdc (xs : List S72) (i : Int) (h0 : 0 ≤ i) (h1 : i < (xs.length : Int)) : (xs.map cnv)[i.toNat]? = some (cnv (rd_T72 xs i)) := by
  have h : i.toNat < xs.length := by omega
  unfold rd_T72
  rw [List.getElem?_map, List.getD_eq_getElem?_getD, List.getElem?_eq_getElem h]
  rfl
theorem toStmt_loop (l : List S72) (sz : (l.length : Int) ≤ 140737488351232) (d : Nat) : ∀ (k : Nat) (x : List S31) (i : Int), 0 ≤ i → i ≤ l.length → (l.length : Int) - i = d → d < k → x.length = l.length → (∀ j : Nat, (j : Int) < i → x[j]? = (l.map cnv)[j]?) →
    laws_toStmtS.l0 k l x i = some (l.map cnv) := by
  induction d with
  | zero =>
    intro k x i h0 h1 hd hk hl hx
    obtain ⟨k, rfl⟩ : ∃ m, k = m + 1 := ⟨k - 1, by omega⟩
    simp only [laws_toStmtS.l0]
    rw [if_neg (by omega)]
    congr 1
    apply List.ext_getElem?
    intro j
    by_cases hj : (j : Int) < i
    · exact hx j hj
    · rw [List.getElem?_eq_none (by omega), List.getElem?_eq_none (by simp; omega)]
  | succ d ih =>
    intro k x i h0 h1 hd hk hl hx
    obtain ⟨k, rfl⟩ : ∃ m, k = m + 1 := ⟨k - 1, by omega⟩
    simp only [laws_toStmtS.l0, laws_toStmt.f, laws_toExpr.f, Option.bind_some]
    rw [if_pos (by omega), if_pos h0, if_pos (by omega), w64 (n := i + 1) (by omega) (by omega)]
    refine ih k _ (i + 1) (by omega) (by omega) (by omega) (by omega) (by simp [hl]) ?_
    intro j hj
    by_cases e : (j : Int) = i
    · have e2 : j = i.toNat := by omega
      subst e2
      rw [rdc l i h0 (by omega), List.getElem?_set_self (by omega)]
      rfl
    · rw [List.getElem?_set_ne (by omega)]
      exact hx j (by omega)
theorem toStmt_tells (l : List S72) (h : (l.length : Int) ≤ 1048576) : ∀ k, l.length < k → laws_toStmtS.f k l = some (l.map cnv) := by
  intro k hk
  unfold laws_toStmtS.f
  rw [if_pos (by omega), if_pos (by omega)]
  exact toStmt_loop l (by omega) l.length k _ 0 (by omega) (by omega) (by omega) hk (by simp) (fun j hj => by omega)
theorem eqStmt_loop (l : List S31) (sz : (l.length : Int) ≤ 140737488351232) (d : Nat) : ∀ (k : Nat) (i : Int), 0 ≤ i → i ≤ l.length → (l.length : Int) - i = d → d < k → laws_eqStmtS.l0 k l l i = some true := by
  induction d with
  | zero =>
    intro k i h0 h1 hd hk
    obtain ⟨k, rfl⟩ : ∃ m, k = m + 1 := ⟨k - 1, by omega⟩
    simp only [laws_eqStmtS.l0]
    rw [if_neg (by omega)]
  | succ d ih =>
    intro k i h0 h1 hd hk
    obtain ⟨k, rfl⟩ : ∃ m, k = m + 1 := ⟨k - 1, by omega⟩
    simp only [laws_eqStmtS.l0, laws_eqStmt.f, laws_eqExpr.f, if_true, Option.bind_some]
    rw [if_pos (by omega), if_pos h0, if_pos (by omega), w64 (n := i + 1) (by omega) (by omega)]
    exact ih k (i + 1) (by omega) (by omega) (by omega) (by omega)
theorem eqStmt_self (l : List S31) (sz : (l.length : Int) ≤ 140737488351232) : ∀ k, l.length < k → laws_eqStmtS.f k l l = some true := by
  intro k hk
  unfold laws_eqStmtS.f
  rw [if_pos rfl]
  exact eqStmt_loop l sz l.length k 0 (by omega) (by omega) (by omega) hk
theorem sz_tells (l : List S72) (hl : l.length ≤ maxLen) : ∃ t, laws_szStmtS.f l 1048576 = some t ∧ (t < 0 ∨ (l.length : Int) ≤ 1048576) := by
  have hm : (maxLen : Int) ≤ 9223372036854775807 := by decide
  unfold laws_szStmtS.f
  rw [w64 (by omega) (by omega)]
  by_cases c : 1048576 - (l.length : Int) < 0
  · rw [if_pos c]; exact ⟨-1, rfl, Or.inl (by omega)⟩
  · rw [if_neg c]; exact ⟨_, rfl, Or.inr (by omega)⟩
theorem rd_app62 (pre : List S62) (a : S62) (t : List S62) : rd_T62 (pre ++ a :: t) (pre.length : Int) = a := by
  unfold rd_T62
  simp [List.getD]
/-- A valid task. -/
def tok (s : S62) : Bool := blk s.f0 && eok s.f1.f0 s.f1.f1 s.f1.f2
/-- A valid program. -/
def pok (l : List S62) : Bool := decide (1 ≤ (l.length : Int) ∧ (l.length : Int) ≤ 6) && l.all tok
/-- Bodies that aren't longer than all that is asked. -/
def Small (l : List S62) : Prop := l.length ≤ 1048576 ∧ ∀ s ∈ l, s.f0.length ≤ 1048576
theorem itask (s : S62) (hz : s.f0.length ≤ 1048576) (k : Nat) (hk : 2097160 ≤ k) : impl_taskOk.f k s.f0 s.f1.f0 s.f1.f1 s.f1.f2 = some (tok s) := by
  unfold impl_taskOk.f tok
  rw [iblock s.f0 (by omega) k (by omega), iexpr]
  simp only [Option.bind_some]
  cases blk s.f0 <;> simp
theorem iprog_loop (suf : List S62) : ∀ (k : Nat) (pre x : List S62), x = pre ++ suf → Small x → suf.length + 2097162 ≤ k →
    impl_ProgramOk.l0 k x (pre.length : Int) = some (suf.all tok) := by
  induction suf with
  | nil =>
    intro k pre x hx hz hk
    obtain ⟨k, rfl⟩ : ∃ m, k = m + 1 := ⟨k - 1, by omega⟩
    have hl : x.length = pre.length := by simp [hx]
    simp only [impl_ProgramOk.l0]
    rw [if_neg (by omega)]
    rfl
  | cons a t ih =>
    intro k pre x hx hz hk
    simp only [List.length_cons] at hk
    obtain ⟨k, rfl⟩ : ∃ m, k = m + 1 := ⟨k - 1, by omega⟩
    have hl : x.length = pre.length + (t.length + 1) := by simp [hx]
    have hr : rd_T62 x (pre.length : Int) = a := by rw [hx]; exact rd_app62 pre a t
    have hn : ((pre.length : Int) + 1) = (((pre ++ [a]).length : Nat) : Int) := by simp
    simp only [impl_ProgramOk.l0]
    rw [if_pos (by omega), if_pos (by omega), hr, itask a (hz.2 a (by simp [hx])) k (by omega)]
    simp only [Option.bind_some, List.all_cons]
    by_cases c : tok a = true
    · rw [if_pos c, c, hn, ih k (pre ++ [a]) x (by simp [hx]) hz (by omega)]
      rfl
    · rw [if_neg c, Bool.eq_false_iff.mpr c]
      rfl
theorem iprog (x : List S62) (hz : Small x) (k : Nat) (hk : x.length + 2097162 ≤ k) : impl_ProgramOk.f k x = some (pok x) := by
  unfold impl_ProgramOk.f pok
  rw [within_eq]
  simp only [Option.bind_some]
  by_cases c : 1 ≤ (x.length : Int) ∧ (x.length : Int) ≤ 6
  · rw [decide_eq_true c, if_pos rfl]
    have := iprog_loop x k [] x rfl hz hk
    simp only [List.length_nil] at this
    rw [show ((0 : Nat) : Int) = 0 from rfl] at this
    rw [this, Bool.true_and]
  · rw [decide_eq_false c, if_neg (by simp), Bool.false_and]
theorem sprog_loop (suf : List S62) : ∀ (k : Nat) (pre x : List S62), x = pre ++ suf → Small x → suf.length + 2097162 ≤ k →
    spec_ProgramOk.l0 k (pre.length : Int) x = some (decide (1 ≤ (x.length : Int) ∧ (x.length : Int) ≤ 6) && suf.all tok) := by
  induction suf with
  | nil =>
    intro k pre x hx hz hk
    obtain ⟨k, rfl⟩ : ∃ m, k = m + 1 := ⟨k - 1, by omega⟩
    have hl : x.length = pre.length := by simp [hx]
    simp only [spec_ProgramOk.l0]
    rw [if_neg (by omega), in_eq]
    simp
  | cons a t ih =>
    intro k pre x hx hz hk
    simp only [List.length_cons] at hk
    obtain ⟨k, rfl⟩ : ∃ m, k = m + 1 := ⟨k - 1, by omega⟩
    have hl : x.length = pre.length + (t.length + 1) := by simp [hx]
    have hr : rd_T62 x (pre.length : Int) = a := by rw [hx]; exact rd_app62 pre a t
    have hn : ((pre.length : Int) + 1) = (((pre ++ [a]).length : Nat) : Int) := by simp
    have hs := hz.2 a (by simp [hx])
    have hz1 := hz.1
    simp only [spec_ProgramOk.l0]
    rw [if_pos (by omega), if_pos (by omega), hr, sblock a.f0 (by omega) k (by omega)]
    simp only [Option.bind_some, List.all_cons]
    by_cases c : blk a.f0 = true
    · rw [if_pos c, sexpr]
      simp only [Option.bind_some]
      by_cases c2 : eok a.f1.f0 a.f1.f1 a.f1.f2 = true
      · have ht : tok a = true := by unfold tok; rw [c, c2]; rfl
        rw [if_pos c2, w64 (by omega) (by omega), hn, ih k (pre ++ [a]) x (by simp [hx]) hz (by omega), ht, Bool.true_and]
      · have ht : tok a = false := by unfold tok; rw [Bool.eq_false_iff.mpr c2, Bool.and_false]
        rw [if_neg c2, ht, Bool.false_and, Bool.and_false]
    · have ht : tok a = false := by unfold tok; rw [Bool.eq_false_iff.mpr c, Bool.false_and]
      rw [if_neg c, ht, Bool.false_and, Bool.and_false]
theorem sprog (x : List S62) (hz : Small x) (k : Nat) (hk : x.length + 2097162 ≤ k) : spec_ProgramOk.f k x = some (pok x) := by
  unfold spec_ProgramOk.f pok
  have := sprog_loop x k [] x rfl hz hk
  simp only [List.length_nil] at this
  rw [show ((0 : Nat) : Int) = 0 from rfl] at this
  exact this
def cnvT (s : S100) : S62 := ⟨s.f0.map cnv, ⟨s.f1.f0, s.f1.f1, s.f1.f2⟩⟩
theorem rdt (xs : List S100) (i : Int) (h0 : 0 ≤ i) (h1 : i < (xs.length : Int)) : (xs.map cnvT)[i.toNat]? = some (cnvT (rd_T100 xs i)) ∧ rd_T100 xs i ∈ xs := by
  have h : i.toNat < xs.length := by omega
  unfold rd_T100
  rw [List.getElem?_map, List.getD_eq_getElem?_getD, List.getElem?_eq_getElem h]
  exact ⟨rfl, List.getElem_mem h⟩
theorem toTask_loop (l : List S100) (sz : (l.length : Int) ≤ 1048576) (hb : ∀ s ∈ l, s.f0.length ≤ 1048576) (d : Nat) : ∀ (k : Nat) (x : List S62) (i : Int), 0 ≤ i → i ≤ l.length → (l.length : Int) - i = d → d + 1048577 < k → x.length = l.length → (∀ j : Nat, (j : Int) < i → x[j]? = (l.map cnvT)[j]?) →
    laws_toTaskS.l0 k l x i = some (l.map cnvT) := by
  induction d with
  | zero =>
    intro k x i h0 h1 hd hk hl hx
    obtain ⟨k, rfl⟩ : ∃ m, k = m + 1 := ⟨k - 1, by omega⟩
    simp only [laws_toTaskS.l0]
    rw [if_neg (by omega)]
    congr 1
    apply List.ext_getElem?
    intro j
    by_cases hj : (j : Int) < i
    · exact hx j hj
    · rw [List.getElem?_eq_none (by omega), List.getElem?_eq_none (by rw [List.length_map]; omega)]
  | succ d ih =>
    intro k x i h0 h1 hd hk hl hx
    obtain ⟨k, rfl⟩ : ∃ m, k = m + 1 := ⟨k - 1, by omega⟩
    obtain ⟨e1, e2⟩ := rdt l i h0 (by omega)
    have hs := hb _ e2
    simp only [laws_toTaskS.l0, laws_toTask.f, laws_toExpr.f]
    rw [if_pos (by omega), if_pos h0, toStmt_tells _ (by omega) k (by omega)]
    simp only [Option.bind_some]
    rw [if_pos (by omega), w64 (n := i + 1) (by omega) (by omega)]
    refine ih k _ (i + 1) (by omega) (by omega) (by omega) (by omega) (by simp [hl]) ?_
    intro j hj
    by_cases e : (j : Int) = i
    · have e2 : j = i.toNat := by omega
      subst e2
      rw [e1, List.getElem?_set_self (by omega)]
      rfl
    · rw [List.getElem?_set_ne (by omega)]
      exact hx j (by omega)
theorem toProg_tells (l : List S100) (h : (l.length : Int) ≤ 1048576) (hb : ∀ s ∈ l, s.f0.length ≤ 1048576) (k : Nat) (hk : l.length + 1048580 ≤ k) : laws_toProgram.f k l = some (l.map cnvT) := by
  unfold laws_toProgram.f laws_toTaskS.f
  rw [if_pos (by omega), if_pos (by omega), toTask_loop l h hb l.length k _ 0 (by omega) (by omega) (by omega) (by omega) (by simp) (fun j hj => by omega)]
  rfl
theorem small_map (l : List S100) (h : (l.length : Int) ≤ 1048576) (hb : ∀ s ∈ l, s.f0.length ≤ 1048576) : Small (l.map cnvT) := by
  refine ⟨by rw [List.length_map]; omega, fun s hs => ?_⟩
  obtain ⟨a, ha, rfl⟩ := List.mem_map.1 hs
  have := hb a ha
  unfold cnvT
  simp only [List.length_map]
  exact this
theorem eqTask_loop (l : List S62) (hz : Small l) (d : Nat) : ∀ (k : Nat) (i : Int), 0 ≤ i → i ≤ l.length → (l.length : Int) - i = d → d + 1048577 < k → laws_eqTaskS.l0 k l l i = some true := by
  have hz1 := hz.1
  induction d with
  | zero =>
    intro k i h0 h1 hd hk
    obtain ⟨k, rfl⟩ : ∃ m, k = m + 1 := ⟨k - 1, by omega⟩
    simp only [laws_eqTaskS.l0]
    rw [if_neg (by omega)]
  | succ d ih =>
    intro k i h0 h1 hd hk
    obtain ⟨k, rfl⟩ : ∃ m, k = m + 1 := ⟨k - 1, by omega⟩
    have hm : rd_T62 l i ∈ l := by
      have h : i.toNat < l.length := by omega
      unfold rd_T62
      rw [List.getD_eq_getElem?_getD, List.getElem?_eq_getElem h]
      exact List.getElem_mem h
    have hs := hz.2 _ hm
    simp only [laws_eqTaskS.l0, laws_eqTask.f, laws_eqExpr.f]
    rw [if_pos (by omega), if_pos h0, if_pos (by omega), eqStmt_self _ (by omega) k (by omega)]
    simp only [Option.bind_some, if_true]
    rw [w64 (n := i + 1) (by omega) (by omega)]
    exact ih k (i + 1) (by omega) (by omega) (by omega) (by omega)
theorem eqProg_self (l : List S62) (hz : Small l) (k : Nat) (hk : l.length + 1048580 ≤ k) : laws_eqProgram.f k l l = some true := by
  unfold laws_eqProgram.f laws_eqTaskS.f
  have hz1 := hz.1
  rw [if_pos rfl, eqTask_loop l hz l.length k 0 (by omega) (by omega) (by omega) (by omega)]
  rfl
theorem szTask_loop (suf : List S100) : ∀ (k : Nat) (pre x : List S100) (a : Int), x = pre ++ suf → (x.length : Int) ≤ 1048576 → (∀ s ∈ x, s.f0.length ≤ maxLen) → suf.length < k → 0 ≤ a → a ≤ 1048576 →
    ∃ t, laws_szTaskS.l0 k x a (pre.length : Int) = some t ∧ (t < 0 ∨ ∀ s ∈ suf, s.f0.length ≤ 1048576) := by
  have hm : (maxLen : Int) ≤ 9223372036854775807 := by decide
  induction suf with
  | nil =>
    intro k pre x a hx hz hb hk a0 a1
    obtain ⟨k, rfl⟩ : ∃ m, k = m + 1 := ⟨k - 1, by omega⟩
    have hl : x.length = pre.length := by simp [hx]
    simp only [laws_szTaskS.l0]
    rw [if_neg (by omega)]
    exact ⟨a, rfl, Or.inr (fun s hs => by simp at hs)⟩
  | cons b t ih =>
    intro k pre x a hx hz hb hk a0 a1
    simp only [List.length_cons] at hk
    obtain ⟨k, rfl⟩ : ∃ m, k = m + 1 := ⟨k - 1, by omega⟩
    have hl : x.length = pre.length + (t.length + 1) := by simp [hx]
    have hr : rd_T100 x (pre.length : Int) = b := by rw [hx]; unfold rd_T100; simp [List.getD]
    have hn : ((pre.length : Int) + 1) = (((pre ++ [b]).length : Nat) : Int) := by simp
    have hbl := hb b (by simp [hx])
    simp only [laws_szTaskS.l0, laws_szTask.f, laws_szStmtS.f]
    rw [if_pos (by omega), if_pos (by omega), hr, w64 (n := a - (b.f0.length : Int)) (by omega) (by omega)]
    by_cases c : a - (b.f0.length : Int) < 0
    · rw [if_pos c]
      exact ⟨-1, by simp, Or.inl (by omega)⟩
    · rw [if_neg c]
      simp only [Option.bind_some]
      rw [if_neg c]
      simp only [Option.bind_some]
      rw [if_neg c, w64 (n := (pre.length : Int) + 1) (by omega) (by omega), hn]
      obtain ⟨r, e, h⟩ := ih k (pre ++ [b]) x (a - (b.f0.length : Int)) (by simp [hx]) hz hb (by omega) (by omega) (by omega)
      refine ⟨r, e, h.imp_right (fun h s hs => ?_)⟩
      rcases List.mem_cons.1 hs with rfl | hs
      · omega
      · exact h s hs
theorem szProg_tells (l : List S100) (hl : l.length ≤ maxLen) (hb : ∀ s ∈ l, s.f0.length ≤ maxLen) (k : Nat) (hk : l.length + 2 ≤ k) : ∃ t, laws_szProgram.f k l 1048576 = some t ∧ (t < 0 ∨ (l.length : Int) ≤ 1048576 ∧ ∀ s ∈ l, s.f0.length ≤ 1048576) := by
  have hm : (maxLen : Int) ≤ 9223372036854775807 := by decide
  unfold laws_szProgram.f laws_szTaskS.f
  rw [w64 (by omega) (by omega)]
  by_cases c : 1048576 - (l.length : Int) < 0
  · rw [if_pos c]; exact ⟨-1, by simp, Or.inl (by omega)⟩
  · rw [if_neg c]
    obtain ⟨r, e, h⟩ := szTask_loop l k [] l (1048576 - (l.length : Int)) rfl (by omega) hb (by omega) (by omega) (by omega)
    simp only [List.length_nil] at e
    rw [show ((0 : Nat) : Int) = 0 from rfl] at e
    rw [e]
    simp only [Option.bind_some]
    by_cases c2 : r < 0
    · rw [if_pos c2]; exact ⟨-1, rfl, Or.inl (by omega)⟩
    · rw [if_neg c2]; exact ⟨r, rfl, h.imp_right (fun h => ⟨by omega, h⟩)⟩
/-- The value of a valid operand. -/
def opd (l : List Int) (n : Int) : Int := if n < 0 then rd l (-1 - n) else n
/-- The value of an expression; 0 where it or the variables are not valid. -/
def evx (l : List Int) (o a b : Int) : Int :=
  if (vok l && eok o a b) = true then
    if o = 1 then sat (sat (opd l a) + sat (opd l b)) else if o = 2 then sat (sat (opd l a) - sat (opd l b)) else if o = 3 then sat (sat (opd l a) * sat (opd l b))
    else if o = 4 then mn (opd l a) (opd l b) else if o = 5 then mx (opd l a) (opd l b) else if o = 6 then (if opd l a < opd l b then 1 else 0) else (if opd l a = opd l b then 1 else 0)
  else 0
theorem iopd {l : List Int} {n : Int} (hl : l.length = 8) (hn : -8 ≤ n ∧ n ≤ 999) : impl_operand.f l n = some (opd l n) := by
  unfold impl_operand.f opd
  by_cases c : n < 0
  · rw [if_pos c, if_pos c, w64 (by omega) (by omega), if_pos (by omega), if_pos (by omega)]
  · rw [if_neg c, if_neg c]
theorem sat64 (a b : Int) : wrap64 (sat a + sat b) = sat a + sat b ∧ wrap64 (sat a - sat b) = sat a - sat b ∧ wrap64 (sat a * sat b) = sat a * sat b := by
  have h1 := sat_in a; have h2 := sat_in b
  refine ⟨w64 (by omega) (by omega), w64 (by omega) (by omega), ?_⟩
  have h3 : (sat a).natAbs ≤ 1000000 := by omega
  have h4 : (sat b).natAbs ≤ 1000000 := by omega
  have h5 : (sat a * sat b).natAbs ≤ 1000000 * 1000000 := by rw [Int.natAbs_mul]; exact Nat.mul_le_mul h3 h4
  exact w64 (by omega) (by omega)
theorem ieval (l : List Int) (o a b : Int) (k : Nat) (hk : 1 ≤ k) : impl_EvalExpr.f k l o a b = some (evx l o a b) := by
  obtain ⟨k, rfl⟩ : ∃ m, k = m + 1 := ⟨k - 1, by omega⟩
  unfold impl_EvalExpr.f evx
  rw [ivars]
  simp only [Option.bind_some]
  cases hv : vok l with
  | false => simp [impl_EvalExpr.j0, hv]
  | true =>
    rw [iexpr]
    cases he : eok o a b with
    | false => simp [impl_EvalExpr.j0, hv, he]
    | true =>
      have hl := vok_len hv
      obtain ⟨ho, ha, hb⟩ := eok_in he
      simp only [impl_EvalExpr.j0, Option.bind_some, Bool.not_true, Bool.false_eq_true, if_false, if_true, Bool.and_self, iopd hl ha, iopd hl hb]
      unfold impl_AddValues.f impl_SubValues.f impl_MulValues.f impl_bit.f
      simp only [isat, Option.bind_some, (sat64 _ _).1, (sat64 _ _).2.1, (sat64 _ _).2.2]
      by_cases h1 : o = 1
      · simp only [if_pos h1]
      · simp only [if_neg h1]
        by_cases h2 : o = 2
        · simp only [if_pos h2]
        · simp only [if_neg h2]
          by_cases h3 : o = 3
          · simp only [if_pos h3]
          · simp only [if_neg h3]
            by_cases h4 : o = 4
            · simp only [if_pos h4]
            · simp only [if_neg h4]
              by_cases h5 : o = 5
              · simp only [if_pos h5]
              · simp only [if_neg h5]
                by_cases h6 : o = 6
                · simp only [if_pos h6]
                  by_cases c : opd l a < opd l b
                  · simp [c]
                  · simp [c]
                · simp only [if_neg h6]
                  by_cases c : opd l a = opd l b
                  · simp [c]
                  · simp [c]
theorem sopd {l : List Int} {n : Int} (hl : l.length = 8) (hn : -8 ≤ n ∧ n ≤ 999) : spec_l03Value.f l n = some (opd l n) := by
  unfold spec_l03Value.f opd
  by_cases c : n < 0
  · rw [if_pos c, if_pos c, w64 (by omega) (by omega), if_pos (by omega), if_pos (by omega)]
  · rw [if_neg c, if_neg c]
theorem sl03 {l : List Int} {o a b : Int} (hv : vok l = true) (he : eok o a b = true) (k : Nat) (hk1 : 1 ≤ k) : spec_l03Eval.f k l o a b = some (evx l o a b) := by
  unfold evx
  rw [if_pos (by rw [hv, he]; rfl)]
  have hl := vok_len hv
  obtain ⟨ho, ha, hb⟩ := eok_in he
  unfold spec_l03Eval.f spec_AddValues.f spec_SubValues.f spec_MulValues.f spec_l03Bit.f
  simp only [sopd hl ha, sopd hl hb, ssat k hk1, Option.bind_some, (sat64 _ _).1, (sat64 _ _).2.1, (sat64 _ _).2.2]
  by_cases h1 : o = 1
  · simp only [if_pos h1, Option.bind_some]
  · simp only [if_neg h1]
    by_cases h2 : o = 2
    · simp only [if_pos h2, Option.bind_some]
    · simp only [if_neg h2]
      by_cases h3 : o = 3
      · simp only [if_pos h3, Option.bind_some]
      · simp only [if_neg h3]
        by_cases h4 : o = 4
        · simp only [if_pos h4, Option.bind_some]
        · simp only [if_neg h4]
          by_cases h5 : o = 5
          · simp only [if_pos h5, Option.bind_some]
          · simp only [if_neg h5]
            by_cases h6 : o = 6
            · simp only [if_pos h6]
              by_cases c : opd l a < opd l b
              · simp [c]
              · simp [c]
            · simp only [if_neg h6]
              by_cases c : opd l a = opd l b
              · simp [c]
              · simp [c]
theorem pok_at {x : List S62} (h : pok x = true) (i : Int) (h0 : 0 ≤ i) (h1 : i < (x.length : Int)) : eok (rd_T62 x i).f1.f0 (rd_T62 x i).f1.f1 (rd_T62 x i).f1.f2 = true := by
  have hi : i.toNat < x.length := by omega
  have hm : rd_T62 x i ∈ x := by
    unfold rd_T62
    rw [List.getD_eq_getElem?_getD, List.getElem?_eq_getElem hi]
    exact List.getElem_mem hi
  unfold pok at h
  rw [Bool.and_eq_true, List.all_eq_true] at h
  have := h.2 _ hm
  unfold tok at this
  rw [Bool.and_eq_true] at this
  exact this.2
theorem pok_len {x : List S62} (h : pok x = true) : 1 ≤ (x.length : Int) ∧ (x.length : Int) ≤ 6 := by
  unfold pok at h
  rw [Bool.and_eq_true] at h
  exact of_decide_eq_true h.1
/-- The task that follows. -/
def nxt (x : List S62) (v : List Int) (i : Int) : Int :=
  if pok x = true ∧ vok v = true ∧ 0 ≤ i ∧ i ≤ (x.length : Int) - 1 then
    (let r := Int.tmod (evx v (rd_T62 x i).f1.f0 (rd_T62 x i).f1.f1 (rd_T62 x i).f1.f2) (x.length : Int)
     if r < 0 then r + x.length else r) else -1
theorem inext (x : List S62) (hz : Small x) (v : List Int) (i : Int) (k : Nat) (hk : x.length + 2097162 ≤ k) : impl_NextTask.f k x v i = some (nxt x v i) := by
  unfold impl_NextTask.f impl_hasTask.f nxt
  have hz1 := hz.1
  rw [iprog x hz k hk, within_eq, ivars, w64 (n := (x.length : Int) - 1) (by omega) (by omega)]
  simp only [Option.bind_some]
  by_cases hp : pok x = true
  · have hl := pok_len hp
    rw [if_pos hp]
    simp only [Option.bind_some, decide_eq_true_eq]
    by_cases hi : 0 ≤ i ∧ i ≤ (x.length : Int) - 1
    · rw [if_pos hi]
      by_cases hv : vok v = true
      · rw [if_pos hv, if_pos hi.1, if_pos (by omega), ieval v _ _ _ k (by omega), if_pos ⟨hp, hv, hi⟩]
        simp only [Option.bind_some]
        rw [if_neg (by omega)]
        have r1 := Int.tmod_lt_of_pos (evx v (rd_T62 x i).f1.f0 (rd_T62 x i).f1.f1 (rd_T62 x i).f1.f2) (show 0 < (x.length : Int) by omega)
        have r2 := Int.lt_tmod_of_pos (evx v (rd_T62 x i).f1.f0 (rd_T62 x i).f1.f1 (rd_T62 x i).f1.f2) (show 0 < (x.length : Int) by omega)
        generalize Int.tmod (evx v (rd_T62 x i).f1.f0 (rd_T62 x i).f1.f1 (rd_T62 x i).f1.f2) (x.length : Int) = r at *
        rw [w64 (by omega) (by omega), Int.tmod_eq_emod_of_nonneg (by omega)]
        congr 1
        by_cases c : r < 0
        · rw [if_pos c, Int.emod_eq_of_lt (by omega) (by omega)]
        · rw [if_neg c, Int.add_emod_right, Int.emod_eq_of_lt (by omega) (by omega)]
      · rw [if_neg hv, if_neg (by simp [hv])]
    · rw [if_neg hi, if_neg (by intro h; exact hi h.2.2)]
  · rw [if_neg hp]
    simp only [Option.bind_some]
    rw [if_neg (by simp), if_neg (by simp [hp])]
theorem snext (x : List S62) (hz : Small x) (v : List Int) (sv : (v.length : Int) ≤ 1048576) (i : Int) (k : Nat) (hk : x.length + v.length + 2097162 ≤ k) : spec_NextTask.f k x v i = some (nxt x v i) := by
  unfold spec_NextTask.f spec_l06Next.f nxt
  have hz1 := hz.1
  rw [sprog x hz k (by omega), svars v (by omega) k (by omega), in_eq, w64 (n := (x.length : Int) - 1) (by omega) (by omega)]
  simp only [Option.bind_some]
  by_cases hp : pok x = true
  · have hl := pok_len hp
    rw [if_pos hp]
    by_cases hv : vok v = true
    · rw [if_pos hv]
      simp only [decide_eq_true_eq]
      by_cases hi : 0 ≤ i ∧ i ≤ (x.length : Int) - 1
      · rw [if_pos hi, if_pos hi.1, if_pos (show i < (x.length : Int) by omega), sl03 hv (pok_at hp i hi.1 (by omega)) k (by omega), if_pos ⟨hp, hv, hi⟩]
        simp only [Option.bind_some]
        rw [if_neg (show ¬ (x.length : Int) = 0 by omega)]
        have r1 := Int.tmod_lt_of_pos (evx v (rd_T62 x i).f1.f0 (rd_T62 x i).f1.f1 (rd_T62 x i).f1.f2) (show 0 < (x.length : Int) by omega)
        have r2 := Int.lt_tmod_of_pos (evx v (rd_T62 x i).f1.f0 (rd_T62 x i).f1.f1 (rd_T62 x i).f1.f2) (show 0 < (x.length : Int) by omega)
        generalize Int.tmod (evx v (rd_T62 x i).f1.f0 (rd_T62 x i).f1.f1 (rd_T62 x i).f1.f2) (x.length : Int) = r at *
        by_cases c : r < 0
        · rw [if_pos c, if_pos c, w64 (by omega) (by omega)]; rfl
        · rw [if_neg c, if_neg c]; rfl
      · rw [if_neg hi, if_neg (by intro h; exact hi h.2.2)]
    · rw [if_neg hv, if_neg (by simp [hv])]
  · rw [if_neg hp, if_neg (by simp [hp])]
theorem FnExactNextTask : laws_FnExactNextTask.Pure := by
  intro l v i hl hw _ _ _
  obtain ⟨K, hK⟩ : ∃ K, l.length + v.length + 4000000 < K := ⟨_, Nat.lt_succ_self _⟩
  obtain ⟨t, et, ht⟩ := szProg_tells l hl (fun s hs => (hw s hs).1.1) K (by omega)
  refine ⟨K, ?_⟩
  unfold laws_FnExactNextTask.f
  by_cases cv : (v.length : Int) > 1048576
  · rw [if_pos cv]
  · rw [if_neg cv, et]
    simp only [Option.bind_some]
    by_cases c : t < 0
    · rw [if_pos c]
    · rw [if_neg c]
      obtain ⟨sz, hb⟩ : (l.length : Int) ≤ 1048576 ∧ ∀ s ∈ l, s.f0.length ≤ 1048576 := ht.resolve_left c
      have hs := small_map l sz hb
      have hlen : (l.map cnvT).length = l.length := List.length_map ..
      rw [toProg_tells l sz hb K (by omega), toInt_tells v (by omega) K (by omega)]
      simp only [Option.bind_some]
      rw [snext _ hs v (by omega) i K (by omega), inext _ hs v i K (by omega)]
      simp only [Option.bind_some, if_true]
      rw [eqProg_self _ hs K (by omega)]
      simp only [Option.bind_some, if_true]
      rw [eqInt_self v (by omega) K (by omega)]
      simp

end Go.Proofs.Ytkjdhmffknahgaa.Pure
