/- The program's MemOk and the reference's return the same for all programs and slices, and leave them as they were; no condition. -/
import Derived.Test.YtkjdhmffknahgaaPFnExactMemOkx12
namespace Go.Proofs.Ytkjdhmffknahgaa.Pure
open Go.RowKit Go.Proofs.Ytkjdhmffknahgaa.PFnExactMemOk Go.Proofs.YtkjdhmffknahgaaW.PrintWords Go.Proofs.YtkjdhmffknahgaaW.PrintLast
set_option linter.unusedVariables false
set_option linter.unusedSimpArgs false

theorem w64 {n : Int} (h1 : -9223372036854775808 ≤ n) (h2 : n ≤ 9223372036854775807) : wrap64 n = n := by unfold wrap64; omega
theorem w64_in (n : Int) : -9223372036854775808 ≤ wrap64 n ∧ wrap64 n ≤ 9223372036854775807 := by unfold wrap64; omega
theorem wf64 {n : Int} (h : (Lit.int .i64 n).wf = true) : -9223372036854775808 ≤ n ∧ n ≤ 9223372036854775807 := by
  simp only [Lit.wf, IntKind.min, IntKind.max, IntKind.signed, IntKind.bits, Bool.and_eq_true, decide_eq_true_eq, if_true] at h
  omega
theorem wfu8 {n : Int} (h : (Lit.int .u8 n).wf = true) : 0 ≤ n ∧ n ≤ 255 := by
  simp [Lit.wf, IntKind.min, IntKind.max, IntKind.signed, IntKind.bits] at h
  omega
theorem and_in (x : Int) (m : Nat) (hm : m < 9223372036854775808) : 0 ≤ Go.bits .and .i64 x (m : Int) ∧ Go.bits .and .i64 x (m : Int) ≤ m := by
  have h1 : (BitVec.ofInt 64 x &&& BitVec.ofInt 64 (m : Int)).toNat ≤ m := by
    rw [BitVec.toNat_and]
    refine Nat.le_trans Nat.and_le_right ?_
    rw [BitVec.ofInt_natCast, BitVec.toNat_ofNat]
    exact Nat.mod_le _ _
  have h2 : Go.bits .and .i64 x (m : Int) = IntKind.i64.wrap (((BitVec.ofInt 64 x &&& BitVec.ofInt 64 (m : Int)).toNat : Nat) : Int) := rfl
  rw [h2, Go.IntKind.wrap_i64]
  omega
theorem and255 (x : Int) : 0 ≤ Go.bits .and .i64 x 255 ∧ Go.bits .and .i64 x 255 ≤ 255 := and_in x 255 (by decide)
theorem tmod_in (x n : Int) (h0 : 0 ≤ x) (h : 1 ≤ n) : 0 ≤ Int.tmod x n ∧ Int.tmod x n < n := ⟨Int.tmod_nonneg _ h0, Int.tmod_lt_of_pos _ (by omega)⟩
theorem in_eq (a b c : Int) : spec_l01In.f a b c = some (decide (b ≤ a ∧ a ≤ c)) := by
  unfold spec_l01In.f
  by_cases h : a ≥ b
  · rw [if_pos h]; simp; omega
  · rw [if_neg h]; simp; omega
theorem within_eq (a b c : Int) : impl_within.f a b c = some (decide (b ≤ a ∧ a ≤ c)) := by
  unfold impl_within.f
  by_cases h : a ≥ b
  · rw [if_pos h]; simp; omega
  · rw [if_neg h]; simp; omega
theorem rd_get (xs : List Int) (i : Int) (h0 : 0 ≤ i) (h1 : i < (xs.length : Int)) : xs[i.toNat]? = some (rd xs i) := by
  have h : i.toNat < xs.length := by omega
  unfold Go.Proofs.YtkjdhmffknahgaaW.PrintWords.rd
  rw [List.getD_eq_getElem?_getD, List.getElem?_eq_getElem h]
  rfl
theorem toInt_loop (l : List Int) (sz : (l.length : Int) ≤ 140737488351232) (d : Nat) : ∀ (k : Nat) (x : List Int) (i : Int), 0 ≤ i → i ≤ l.length → (l.length : Int) - i = d → d < k → x.length = l.length → (∀ j : Nat, (j : Int) < i → x[j]? = l[j]?) →
    laws_toIntS.l0 k l x i = some l := by
  induction d with
  | zero =>
    intro k x i h0 h1 hd hk hl hx
    obtain ⟨k, rfl⟩ : ∃ m, k = m + 1 := ⟨k - 1, by omega⟩
    simp only [laws_toIntS.l0]
    rw [if_neg (by omega)]
    congr 1
    apply List.ext_getElem?
    intro j
    by_cases hj : (j : Int) < i
    · exact hx j hj
    · rw [List.getElem?_eq_none (by omega), List.getElem?_eq_none (by omega)]
  | succ d ih =>
    intro k x i h0 h1 hd hk hl hx
    obtain ⟨k, rfl⟩ : ∃ m, k = m + 1 := ⟨k - 1, by omega⟩
    simp only [laws_toIntS.l0]
    rw [if_pos (by omega), if_pos h0, if_pos (by omega), w64 (n := i + 1) (by omega) (by omega)]
    refine ih k _ (i + 1) (by omega) (by omega) (by omega) (by omega) (by simp [hl]) ?_
    intro j hj
    by_cases e : (j : Int) = i
    · have e2 : j = i.toNat := by omega
      subst e2
      rw [rd_get l i h0 (by omega), List.getElem?_set_self (by omega)]
    · rw [List.getElem?_set_ne (by omega)]
      exact hx j (by omega)
theorem toInt_tells (l : List Int) (h : (l.length : Int) ≤ 1048576) : ∀ k, l.length < k → laws_toIntS.f k l = some l := by
  intro k hk
  unfold laws_toIntS.f
  rw [if_pos (by omega), if_pos (by omega)]
  exact toInt_loop l (by omega) l.length k _ 0 (by omega) (by omega) (by omega) hk (by simp) (fun j hj => by omega)
theorem eqInt_loop (l : List Int) (sz : (l.length : Int) ≤ 140737488351232) (d : Nat) : ∀ (k : Nat) (i : Int), 0 ≤ i → i ≤ l.length → (l.length : Int) - i = d → d < k → laws_eqIntS.l0 k l l i = some true := by
  induction d with
  | zero =>
    intro k i h0 h1 hd hk
    obtain ⟨k, rfl⟩ : ∃ m, k = m + 1 := ⟨k - 1, by omega⟩
    simp only [laws_eqIntS.l0]
    rw [if_neg (by omega)]
  | succ d ih =>
    intro k i h0 h1 hd hk
    obtain ⟨k, rfl⟩ : ∃ m, k = m + 1 := ⟨k - 1, by omega⟩
    simp only [laws_eqIntS.l0]
    rw [if_pos (by omega), if_pos h0, if_pos (by omega), if_pos trivial, w64 (n := i + 1) (by omega) (by omega)]
    exact ih k (i + 1) (by omega) (by omega) (by omega) (by omega)
theorem eqInt_self (l : List Int) (sz : (l.length : Int) ≤ 140737488351232) : ∀ k, l.length < k → laws_eqIntS.f k l l = some true := by
  intro k hk
  unfold laws_eqIntS.f
  rw [if_pos rfl]
  exact eqInt_loop l sz l.length k 0 (by omega) (by omega) (by omega) hk
/-- A valid expression. -/
def eok (o a b : Int) : Bool := decide (1 ≤ o ∧ o ≤ 7) && (decide (-8 ≤ a ∧ a ≤ 999) && decide (-8 ≤ b ∧ b ≤ 999))
theorem iexpr (o a b : Int) : impl_ExprOk.f o a b = some (eok o a b) := by
  unfold impl_ExprOk.f impl_OperandOk.f eok
  simp only [within_eq, Option.bind_some]
  cases decide (1 ≤ o ∧ o ≤ 7) <;> cases decide (-8 ≤ a ∧ a ≤ 999) <;> simp
theorem eok_in {o a b : Int} (h : eok o a b = true) : (1 ≤ o ∧ o ≤ 7) ∧ (-8 ≤ a ∧ a ≤ 999) ∧ (-8 ≤ b ∧ b ≤ 999) := by
  unfold eok at h
  simp only [Bool.and_eq_true, decide_eq_true_eq] at h
  exact h
theorem sexpr (o a b : Int) : spec_ExprOk.f o a b = some (eok o a b) := by
  unfold spec_ExprOk.f spec_OperandOk.f eok
  simp only [in_eq, Option.bind_some]
  cases decide (1 ≤ o ∧ o ≤ 7) <;> cases decide (-8 ≤ a ∧ a ≤ 999) <;> simp
/-- A valid statement. -/
def zok (o a b : Int) : Bool := decide (o = 0) && (decide (a = 0) && decide (b = 0))
def sok (c v n o a b : Int) : Bool :=
  if c = 1 then decide (0 ≤ v ∧ v ≤ 7) && (decide (n = 0) && eok o a b)
  else if c = 2 then decide (0 ≤ v ∧ v ≤ 7) && (decide (0 ≤ n ∧ n ≤ 3) && zok o a b)
  else if c = 3 then decide (v = 0) && (decide (n = 0) && eok o a b)
  else if c = 4 then decide (v = 0) && (decide (n = 0) && eok o a b)
  else if c = 5 then decide (v = 0) && (decide (1 ≤ n ∧ n ≤ 5) && zok o a b)
  else if c = 6 then decide (v = 0) && (decide (n = 0) && zok o a b)
  else false
theorem hasVar_eq (c : Int) : impl_hasVar.f c = some (decide (c = 1 ∨ c = 2)) := by
  unfold impl_hasVar.f
  by_cases h : c = 1
  · rw [if_pos h]; simp [h]
  · rw [if_neg h]; simp [h]; rfl
theorem hasExpr_eq (c : Int) : impl_hasExpr.f c = some (decide (c = 1 ∨ c = 3 ∨ c = 4)) := by
  unfold impl_hasExpr.f
  by_cases h : c = 1
  · rw [if_pos h]; simp [h]
  · rw [if_neg h]
    by_cases h2 : c = 3
    · rw [if_pos h2]; simp [h2]
    · rw [if_neg h2]; simp [h, h2]; rfl
theorem isVar_eq (v : Int) : impl_isVar.f v = some (decide (0 ≤ v ∧ v ≤ 7)) := by
  unfold impl_isVar.f; rw [within_eq]; rfl
theorem isSensor_eq (v : Int) : impl_isSensor.f v = some (decide (0 ≤ v ∧ v ≤ 3)) := by
  unfold impl_isSensor.f; rw [within_eq]; rfl
theorem istmt (c v n o a b : Int) (k : Nat) (hk : 2 ≤ k) : impl_StmtOk.f k c v n o a b = some (sok c v n o a b) := by
  obtain ⟨k, rfl⟩ : ∃ m, k = m + 2 := ⟨k - 2, by omega⟩
  unfold impl_StmtOk.f sok zok
  simp only [within_eq, hasVar_eq, isVar_eq, hasExpr_eq, isSensor_eq, iexpr, Option.bind_some, impl_StmtOk.j0, impl_StmtOk.j1]
  by_cases h1 : c = 1
  · subst h1
    cases decide (0 ≤ v ∧ v ≤ 7) <;> cases eok o a b <;> by_cases hn : n = 0 <;> simp [hn]
  · by_cases h2 : c = 2
    · subst h2
      cases decide (0 ≤ v ∧ v ≤ 7) <;> cases decide (0 ≤ n ∧ n ≤ 3) <;> by_cases ho : o = 0 <;> by_cases ha : a = 0 <;> by_cases hb : b = 0 <;> simp [ho, ha, hb]
    · by_cases h3 : c = 3
      · subst h3
        cases eok o a b <;> by_cases hn : n = 0 <;> by_cases hv : v = 0 <;> simp [hn, hv]
      · by_cases h4 : c = 4
        · subst h4
          cases eok o a b <;> by_cases hn : n = 0 <;> by_cases hv : v = 0 <;> simp [hn, hv]
        · by_cases h5 : c = 5
          · subst h5
            cases decide (1 ≤ n ∧ n ≤ 5) <;> by_cases hv : v = 0 <;> by_cases ho : o = 0 <;> by_cases ha : a = 0 <;> by_cases hb : b = 0 <;> simp [hv, ho, ha, hb]
          · by_cases h6 : c = 6
            · subst h6
              by_cases hn : n = 0 <;> by_cases hv : v = 0 <;> by_cases ho : o = 0 <;> by_cases ha : a = 0 <;> by_cases hb : b = 0 <;> simp [hn, hv, ho, ha, hb]
            · have hw : ¬ (1 ≤ c ∧ c ≤ 6) := by omega
              simp [h1, h2, h3, h4, h5, h6, hw]
theorem sstmt (c v n o a b : Int) (k : Nat) (hk : 2 ≤ k) : spec_StmtOk.f k c v n o a b = some (sok c v n o a b) := by
  obtain ⟨k, rfl⟩ : ∃ m, k = m + 2 := ⟨k - 2, by omega⟩
  unfold spec_StmtOk.f spec_l04Plain.f sok zok
  simp only [in_eq, sexpr, Option.bind_some, spec_StmtOk.j0]
  by_cases h1 : c = 1
  · subst h1
    cases decide (0 ≤ v ∧ v ≤ 7) <;> cases eok o a b <;> by_cases hn : n = 0 <;> simp [hn]
  · by_cases h2 : c = 2
    · subst h2
      cases decide (0 ≤ v ∧ v ≤ 7) <;> cases decide (0 ≤ n ∧ n ≤ 3) <;> by_cases ho : o = 0 <;> by_cases ha : a = 0 <;> by_cases hb : b = 0 <;> simp [ho, ha, hb]
    · by_cases h3 : c = 3
      · subst h3
        cases eok o a b <;> by_cases hn : n = 0 <;> by_cases hv : v = 0 <;> simp [hn, hv]
      · by_cases h4 : c = 4
        · subst h4
          cases eok o a b <;> by_cases hn : n = 0 <;> by_cases hv : v = 0 <;> simp [hn, hv]
        · by_cases h5 : c = 5
          · subst h5
            cases decide (1 ≤ n ∧ n ≤ 5) <;> by_cases hv : v = 0 <;> by_cases ho : o = 0 <;> by_cases ha : a = 0 <;> by_cases hb : b = 0 <;> simp [hv, ho, ha, hb]
          · by_cases h6 : c = 6
            · subst h6
              by_cases hn : n = 0 <;> by_cases hv : v = 0 <;> by_cases ho : o = 0 <;> by_cases ha : a = 0 <;> by_cases hb : b = 0 <;> simp [hn, hv, ho, ha, hb]
            · by_cases hn : n = 0 <;> by_cases hv : v = 0 <;> by_cases ho : o = 0 <;> by_cases ha : a = 0 <;> by_cases hb : b = 0 <;> simp [h1, h2, h3, h4, h5, h6, hn, hv, ho, ha, hb]
theorem rd_app (pre : List S31) (a : S31) (t : List S31) : rd_T31 (pre ++ a :: t) (pre.length : Int) = a := by
  unfold rd_T31
  simp [List.getD]
def okS (s : S31) : Bool := sok s.f0 s.f1 s.f2 s.f3.f0 s.f3.f1 s.f3.f2
def opn (s : S31) : Bool := decide (s.f0 = 4 ∨ s.f0 = 5)
def del (s : S31) : Int := if s.f0 = 4 ∨ s.f0 = 5 then 1 else if s.f0 = 6 then -1 else 0
theorem del_in (s : S31) : -1 ≤ del s ∧ del s ≤ 1 := by unfold del; split <;> (try split) <;> omega
def scan : List S31 → Int → Option Int
  | [], d => some d
  | s :: t, d => if okS s = true then (if 0 ≤ d + del s ∧ d + del s ≤ 3 then scan t (d + del s) else none) else none
def fin (o : Option Int) (n : Nat) : Bool := decide (o = some 0) && decide (n ≤ 24)
/-- Whether the statements are a valid block. -/
def blk (l : List S31) : Bool := fin (scan l 0) l.length
theorem opening_eq (c : Int) : impl_isOpening.f c = some (decide (c = 4 ∨ c = 5)) := by
  unfold impl_isOpening.f
  by_cases h : c = 4
  · simp [h]
  · rw [if_neg h]; congr 1; rw [Bool.eq_iff_iff]; simp [h]
theorem iscan (suf : List S31) : ∀ (k : Nat) (pre x : List S31) (d : Int), x = pre ++ suf → x.length ≤ 140737488351232 → 2 * suf.length + 4 ≤ k → 0 ≤ d → d ≤ 3 →
    impl_BlockOk.l0 k x d x (x.length : Int) (pre.length : Int) = some (fin (scan suf d) x.length) := by
  induction suf with
  | nil =>
    intro k pre x d hx hz hk d0 d1
    obtain ⟨k, rfl⟩ : ∃ m, k = m + 1 := ⟨k - 1, by omega⟩
    have hl : x.length = pre.length := by simp [hx]
    unfold impl_BlockOk.l0
    rw [if_neg (by omega)]
    unfold scan fin
    by_cases c : d = 0
    · rw [if_pos c, c]; congr 1; simp; omega
    · rw [if_neg c]; simp [c]
  | cons a t ih =>
    intro k pre x d hx hz hk d0 d1
    simp only [List.length_cons] at hk
    obtain ⟨k, rfl⟩ : ∃ m, k = m + 2 := ⟨k - 2, by omega⟩
    have hl : x.length = pre.length + (t.length + 1) := by simp [hx]
    have hr : rd_T31 x (pre.length : Int) = a := by rw [hx]; exact rd_app pre a t
    have hn : ((pre.length : Int) + 1) = (((pre ++ [a]).length : Nat) : Int) := by simp
    unfold impl_BlockOk.l0
    rw [if_pos (by omega), if_pos (by omega), if_pos (by omega)]
    simp only [hr]
    rw [istmt _ _ _ _ _ _ _ (by omega)]
    simp only [Option.bind_some]
    have hs : ∀ e, scan (a :: t) e = if okS a = true then (if 0 ≤ e + del a ∧ e + del a ≤ 3 then scan t (e + del a) else none) else none := fun e => rfl
    rw [hs]
    by_cases ok : okS a = true
    · rw [if_pos ok]
      unfold okS at ok
      rw [if_pos ok, opening_eq]
      simp only [Option.bind_some, decide_eq_true_eq]
      have step : ∀ e : Int, 0 ≤ e → e ≤ 3 → impl_BlockOk.l0 k x e x (x.length : Int) (wrap64 ((pre.length : Int) + 1)) = some (fin (scan t e) x.length) := by
        intro e e0 e1
        rw [w64 (by omega) (by omega), hn]
        exact ih k (pre ++ [a]) x e (by simp [hx]) hz (by omega) e0 e1
      by_cases o : a.f0 = 4 ∨ a.f0 = 5
      · have hd : del a = 1 := by unfold del; rw [if_pos o]
        rw [if_pos o, hd, w64 (n := d + 1) (by omega) (by omega)]
        unfold impl_BlockOk.j1
        rw [if_neg (by omega), if_neg (by omega)]
        by_cases c : d + 1 > 3
        · rw [if_pos c, if_neg (by omega)]; simp [fin]
        · rw [if_neg c, if_pos (by omega)]
          exact step _ (by omega) (by omega)
      · rw [if_neg o]
        unfold impl_BlockOk.j1
        by_cases c6 : a.f0 = 6
        · have hd : del a = -1 := by unfold del; rw [if_neg o, if_pos c6]
          rw [if_pos c6, hd, w64 (n := d - 1) (by omega) (by omega)]
          by_cases c : d - 1 < 0
          · rw [if_pos c, if_neg (by omega)]; simp [fin]
          · rw [if_neg c, if_neg (by omega), if_pos (by omega)]
            exact step _ (by omega) (by omega)
        · have hd : del a = 0 := by unfold del; rw [if_neg o, if_neg c6]
          rw [if_neg c6, hd, if_neg (by omega), if_neg (by omega), if_pos (by omega), show d + 0 = d by omega]
          exact step _ (by omega) (by omega)
    · rw [if_neg ok]
      unfold okS at ok
      rw [if_neg ok]
      simp [fin]
theorem iblock (l : List S31) (hz : l.length ≤ 140737488351232) (k : Nat) (hk : 2 * l.length + 4 ≤ k) : impl_BlockOk.f k l = some (blk l) :=
  iscan l k [] l 0 rfl hz hk (by omega) (by omega)
theorem sscan (suf : List S31) : ∀ (k : Nat) (pre x : List S31) (d : Int), x = pre ++ suf → x.length ≤ 140737488351232 → 2 * suf.length + 4 ≤ k → 0 ≤ d → d ≤ 3 →
    spec_BlockOk.l0 k x d (pre.length : Int) = some (fin (scan suf d) x.length) := by
  induction suf with
  | nil =>
    intro k pre x d hx hz hk d0 d1
    obtain ⟨k, rfl⟩ : ∃ m, k = m + 1 := ⟨k - 1, by omega⟩
    have hl : x.length = pre.length := by simp [hx]
    unfold spec_BlockOk.l0
    rw [if_neg (by omega)]
    unfold scan fin
    by_cases c : d = 0
    · rw [if_pos c, c]; congr 1; simp; omega
    · rw [if_neg c]; simp [c]
  | cons a t ih =>
    intro k pre x d hx hz hk d0 d1
    simp only [List.length_cons] at hk
    obtain ⟨k, rfl⟩ : ∃ m, k = m + 2 := ⟨k - 2, by omega⟩
    have hl : x.length = pre.length + (t.length + 1) := by simp [hx]
    have hr : rd_T31 x (pre.length : Int) = a := by rw [hx]; exact rd_app pre a t
    have hn : ((pre.length : Int) + 1) = (((pre ++ [a]).length : Nat) : Int) := by simp
    unfold spec_BlockOk.l0
    rw [if_pos (by omega), if_pos (by omega)]
    simp only [hr]
    rw [sstmt _ _ _ _ _ _ _ (by omega)]
    simp only [Option.bind_some]
    have hs : ∀ e, scan (a :: t) e = if okS a = true then (if 0 ≤ e + del a ∧ e + del a ≤ 3 then scan t (e + del a) else none) else none := fun e => rfl
    rw [hs]
    by_cases ok : okS a = true
    · rw [if_pos ok]
      unfold okS at ok
      rw [if_pos ok]
      have step : ∀ e : Int, 0 ≤ e → e ≤ 3 → spec_BlockOk.l0 k x e (wrap64 ((pre.length : Int) + 1)) = some (fin (scan t e) x.length) := by
        intro e e0 e1
        rw [w64 (by omega) (by omega), hn]
        exact ih k (pre ++ [a]) x e (by simp [hx]) hz (by omega) e0 e1
      have hj : ∀ b : Bool, b = decide (a.f0 = 4 ∨ a.f0 = 5) → spec_BlockOk.j1 (k + 1) x d (pre.length : Int) a.f0 b = some (fin (if 0 ≤ d + del a ∧ d + del a ≤ 3 then scan t (d + del a) else none) x.length) := by
        intro b hb
        unfold spec_BlockOk.j1
        by_cases o : a.f0 = 4 ∨ a.f0 = 5
        · have hd : del a = 1 := by unfold del; rw [if_pos o]
          rw [if_pos (by rw [hb]; exact decide_eq_true o), hd, w64 (n := d + 1) (by omega) (by omega), in_eq]
          simp only [Option.bind_some, decide_eq_true_eq]
          by_cases c : 0 ≤ d + 1 ∧ d + 1 ≤ 3
          · rw [if_pos c, if_pos c]; exact step _ c.1 c.2
          · rw [if_neg c, if_neg c]; simp [fin]
        · rw [if_neg (by rw [hb]; simp; omega)]
          by_cases c6 : a.f0 = 6
          · have hd : del a = -1 := by unfold del; rw [if_neg o, if_pos c6]
            rw [if_pos c6, hd, w64 (n := d - 1) (by omega) (by omega), in_eq, show d + -1 = d - 1 by omega]
            simp only [Option.bind_some, decide_eq_true_eq]
            by_cases c : 0 ≤ d - 1 ∧ d - 1 ≤ 3
            · rw [if_pos c, if_pos c]; exact step _ c.1 c.2
            · rw [if_neg c, if_neg c]; simp [fin]
          · have hd : del a = 0 := by unfold del; rw [if_neg o, if_neg c6]
            rw [if_neg c6, hd, in_eq, show d + 0 = d by omega]
            simp only [Option.bind_some, decide_eq_true_eq]
            rw [if_pos ⟨d0, d1⟩, if_pos ⟨d0, d1⟩]; exact step _ d0 d1
      by_cases c4 : a.f0 = 4
      · rw [if_pos c4]
        exact hj _ (by simp [c4])
      · rw [if_neg c4]
        exact hj _ (by rw [Bool.eq_iff_iff]; simp [c4])
    · rw [if_neg ok]
      unfold okS at ok
      rw [if_neg ok]
      simp [fin]
theorem sblock (l : List S31) (hz : l.length ≤ 140737488351232) (k : Nat) (hk : 2 * l.length + 4 ≤ k) : spec_BlockOk.f k l = some (blk l) :=
  sscan l k [] l 0 rfl hz hk (by omega) (by omega)
def cnv (s : S72) : S31 := ⟨s.f0, s.f1, s.f2, ⟨s.f3.f0, s.f3.f1, s.f3.f2⟩⟩
theorem rdc (xs : List S72) (i : Int) (h0 : 0 ≤ i) (h1 : i < (xs.length : Int)) : (xs.map cnv)[i.toNat]? = some (cnv (rd_T72 xs i)) := by
  have h : i.toNat < xs.length := by omega
  unfold rd_T72
  rw [List.getElem?_map, List.getD_eq_getElem?_getD, List.getElem?_eq_getElem h]
  rfl
theorem toStmt_loop (l : List S72) (sz : (l.length : Int) ≤ 140737488351232) (d : Nat) : ∀ (k : Nat) (x : List S31) (i : Int), 0 ≤ i → i ≤ l.length → (l.length : Int) - i = d → d < k → x.length = l.length → (∀ j : Nat, (j : Int) < i → x[j]? = (l.map cnv)[j]?) →
    laws_toStmtS.l0 k l x i = some (l.map cnv) := by
  induction d with
  | zero =>
    intro k x i h0 h1 hd hk hl hx
    obtain ⟨k, rfl⟩ : ∃ m, k = m + 1 := ⟨k - 1, by omega⟩
    simp only [laws_toStmtS.l0]
    rw [if_neg (by omega)]
    congr 1
    apply List.ext_getElem?
    intro j
    by_cases hj : (j : Int) < i
    · exact hx j hj
    · rw [List.getElem?_eq_none (by omega), List.getElem?_eq_none (by simp; omega)]
  | succ d ih =>
    intro k x i h0 h1 hd hk hl hx
    obtain ⟨k, rfl⟩ : ∃ m, k = m + 1 := ⟨k - 1, by omega⟩
    simp only [laws_toStmtS.l0, laws_toStmt.f, laws_toExpr.f, Option.bind_some]
    rw [if_pos (by omega), if_pos h0, if_pos (by omega), w64 (n := i + 1) (by omega) (by omega)]
    refine ih k _ (i + 1) (by omega) (by omega) (by omega) (by omega) (by simp [hl]) ?_
    intro j hj
    by_cases e : (j : Int) = i
    · have e2 : j = i.toNat := by omega
      subst e2
      rw [rdc l i h0 (by omega), List.getElem?_set_self (by omega)]
      rfl
    · rw [List.getElem?_set_ne (by omega)]
      exact hx j (by omega)
theorem toStmt_tells (l : List S72) (h : (l.length : Int) ≤ 1048576) : ∀ k, l.length < k → laws_toStmtS.f k l = some (l.map cnv) := by
  intro k hk
  unfold laws_toStmtS.f
  rw [if_pos (by omega), if_pos (by omega)]
  exact toStmt_loop l (by omega) l.length k _ 0 (by omega) (by omega) (by omega) hk (by simp) (fun j hj => by omega)
theorem eqStmt_loop (l : List S31) (sz : (l.length : Int) ≤ 140737488351232) (d : Nat) : ∀ (k : Nat) (i : Int), 0 ≤ i → i ≤ l.length → (l.length : Int) - i = d → d < k → laws_eqStmtS.l0 k l l i = some true := by
  induction d with
  | zero =>
    intro k i h0 h1 hd hk
    obtain ⟨k, rfl⟩ : ∃ m, k = m + 1 := ⟨k - 1, by omega⟩
    simp only [laws_eqStmtS.l0]
    rw [if_neg (by omega)]
  | succ d ih =>
    intro k i h0 h1 hd hk
    obtain ⟨k, rfl⟩ : ∃ m, k = m + 1 := ⟨k - 1, by omega⟩
    simp only [laws_eqStmtS.l0, laws_eqStmt.f, laws_eqExpr.f, if_true, Option.bind_some]
    rw [if_pos (by omega), if_pos h0, if_pos (by omega), w64 (n := i + 1) (by omega) (by omega)]
    exact ih k (i + 1) (by omega) (by omega) (by omega) (by omega)
theorem eqStmt_self (l : List S31) (sz : (l.length : Int) ≤ 140737488351232) : ∀ k, l.length < k → laws_eqStmtS.f k l l = some true := by
  intro k hk
  unfold laws_eqStmtS.f
  rw [if_pos rfl]
  exact eqStmt_loop l sz l.length k 0 (by omega) (by omega) (by omega) hk
theorem sz_tells (l : List S72) (hl : l.length ≤ maxLen) : ∃ t, laws_szStmtS.f l 1048576 = some t ∧ (t < 0 ∨ (l.length : Int) ≤ 1048576) := by
  have hm : (maxLen : Int) ≤ 9223372036854775807 := by decide
  unfold laws_szStmtS.f
  rw [w64 (by omega) (by omega)]
  by_cases c : 1048576 - (l.length : Int) < 0
  · rw [if_pos c]; exact ⟨-1, rfl, Or.inl (by omega)⟩
  · rw [if_neg c]; exact ⟨_, rfl, Or.inr (by omega)⟩
theorem rd_app62 (pre : List S62) (a : S62) (t : List S62) : rd_T62 (pre ++ a :: t) (pre.length : Int) = a := by
  unfold rd_T62
  simp [List.getD]
/-- A valid task. -/
def tok (s : S62) : Bool := blk s.f0 && eok s.f1.f0 s.f1.f1 s.f1.f2
/-- A valid program. -/
def pok (l : List S62) : Bool := decide (1 ≤ (l.length : Int) ∧ (l.length : Int) ≤ 6) && l.all tok
/-- Bodies that aren't longer than all that is asked. -/
def Small (l : List S62) : Prop := l.length ≤ 1048576 ∧ ∀ s ∈ l, s.f0.length ≤ 1048576
theorem itask (s : S62) (hz : s.f0.length ≤ 1048576) (k : Nat) (hk : 2097160 ≤ k) : impl_taskOk.f k s.f0 s.f1.f0 s.f1.f1 s.f1.f2 = some (tok s) := by
  unfold impl_taskOk.f tok
  rw [iblock s.f0 (by omega) k (by omega), iexpr]
  simp only [Option.bind_some]
  cases blk s.f0 <;> simp
theorem iprog_loop (suf : List S62) : ∀ (k : Nat) (pre x : List S62), x = pre ++ suf → Small x → suf.length + 2097162 ≤ k →
    impl_ProgramOk.l0 k x (pre.length : Int) = some (suf.all tok) := by
  induction suf with
  | nil =>
    intro k pre x hx hz hk
    obtain ⟨k, rfl⟩ : ∃ m, k = m + 1 := ⟨k - 1, by omega⟩
    have hl : x.length = pre.length := by simp [hx]
    simp only [impl_ProgramOk.l0]
    rw [if_neg (by omega)]
    rfl
  | cons a t ih =>
    intro k pre x hx hz hk
    simp only [List.length_cons] at hk
    obtain ⟨k, rfl⟩ : ∃ m, k = m + 1 := ⟨k - 1, by omega⟩
    have hl : x.length = pre.length + (t.length + 1) := by simp [hx]
    have hr : rd_T62 x (pre.length : Int) = a := by rw [hx]; exact rd_app62 pre a t
    have hn : ((pre.length : Int) + 1) = (((pre ++ [a]).length : Nat) : Int) := by simp
    simp only [impl_ProgramOk.l0]
    rw [if_pos (by omega), if_pos (by omega), hr, itask a (hz.2 a (by simp [hx])) k (by omega)]
    simp only [Option.bind_some, List.all_cons]
    by_cases c : tok a = true
    · rw [if_pos c, c, hn, ih k (pre ++ [a]) x (by simp [hx]) hz (by omega)]
      rfl
    · rw [if_neg c, Bool.eq_false_iff.mpr c]
      rfl
theorem iprog (x : List S62) (hz : Small x) (k : Nat) (hk : x.length + 2097162 ≤ k) : impl_ProgramOk.f k x = some (pok x) := by
  unfold impl_ProgramOk.f pok
  rw [within_eq]
  simp only [Option.bind_some]
  by_cases c : 1 ≤ (x.length : Int) ∧ (x.length : Int) ≤ 6
  · rw [decide_eq_true c, if_pos rfl]
    have := iprog_loop x k [] x rfl hz hk
    simp only [List.length_nil] at this
    rw [show ((0 : Nat) : Int) = 0 from rfl] at this
    rw [this, Bool.true_and]
  · rw [decide_eq_false c, if_neg (by simp), Bool.false_and]
theorem sprog_loop (suf : List S62) : ∀ (k : Nat) (pre x : List S62), x = pre ++ suf → Small x → suf.length + 2097162 ≤ k →
    spec_ProgramOk.l0 k (pre.length : Int) x = some (decide (1 ≤ (x.length : Int) ∧ (x.length : Int) ≤ 6) && suf.all tok) := by
  induction suf with
  | nil =>
    intro k pre x hx hz hk
    obtain ⟨k, rfl⟩ : ∃ m, k = m + 1 := ⟨k - 1, by omega⟩
    have hl : x.length = pre.length := by simp [hx]
    simp only [spec_ProgramOk.l0]
    rw [if_neg (by omega), in_eq]
    simp
  | cons a t ih =>
    intro k pre x hx hz hk
    simp only [List.length_cons] at hk
    obtain ⟨k, rfl⟩ : ∃ m, k = m + 1 := ⟨k - 1, by omega⟩
    have hl : x.length = pre.length + (t.length + 1) := by simp [hx]
    have hr : rd_T62 x (pre.length : Int) = a := by rw [hx]; exact rd_app62 pre a t
    have hn : ((pre.length : Int) + 1) = (((pre ++ [a]).length : Nat) : Int) := by simp
    have hs := hz.2 a (by simp [hx])
    have hz1 := hz.1
    simp only [spec_ProgramOk.l0]
    rw [if_pos (by omega), if_pos (by omega), hr, sblock a.f0 (by omega) k (by omega)]
    simp only [Option.bind_some, List.all_cons]
    by_cases c : blk a.f0 = true
    · rw [if_pos c, sexpr]
      simp only [Option.bind_some]
      by_cases c2 : eok a.f1.f0 a.f1.f1 a.f1.f2 = true
      · have ht : tok a = true := by unfold tok; rw [c, c2]; rfl
        rw [if_pos c2, w64 (by omega) (by omega), hn, ih k (pre ++ [a]) x (by simp [hx]) hz (by omega), ht, Bool.true_and]
      · have ht : tok a = false := by unfold tok; rw [Bool.eq_false_iff.mpr c2, Bool.and_false]
        rw [if_neg c2, ht, Bool.false_and, Bool.and_false]
    · have ht : tok a = false := by unfold tok; rw [Bool.eq_false_iff.mpr c, Bool.false_and]
      rw [if_neg c, ht, Bool.false_and, Bool.and_false]
theorem sprog (x : List S62) (hz : Small x) (k : Nat) (hk : x.length + 2097162 ≤ k) : spec_ProgramOk.f k x = some (pok x) := by
  unfold spec_ProgramOk.f pok
  have := sprog_loop x k [] x rfl hz hk
  simp only [List.length_nil] at this
  rw [show ((0 : Nat) : Int) = 0 from rfl] at this
  exact this
def cnvT (s : S100) : S62 := ⟨s.f0.map cnv, ⟨s.f1.f0, s.f1.f1, s.f1.f2⟩⟩
theorem rdt (xs : List S100) (i : Int) (h0 : 0 ≤ i) (h1 : i < (xs.length : Int)) : (xs.map cnvT)[i.toNat]? = some (cnvT (rd_T100 xs i)) ∧ rd_T100 xs i ∈ xs := by
  have h : i.toNat < xs.length := by omega
  unfold rd_T100
  rw [List.getElem?_map, List.getD_eq_getElem?_getD, List.getElem?_eq_getElem h]
  exact ⟨rfl, List.getElem_mem h⟩
theorem toTask_loop (l : List S100) (sz : (l.length : Int) ≤ 1048576) (hb : ∀ s ∈ l, s.f0.length ≤ 1048576) (d : Nat) : ∀ (k : Nat) (x : List S62) (i : Int), 0 ≤ i → i ≤ l.length → (l.length : Int) - i = d → d + 1048577 < k → x.length = l.length → (∀ j : Nat, (j : Int) < i → x[j]? = (l.map cnvT)[j]?) →
    laws_toTaskS.l0 k l x i = some (l.map cnvT) := by
  induction d with
  | zero =>
    intro k x i h0 h1 hd hk hl hx
    obtain ⟨k, rfl⟩ : ∃ m, k = m + 1 := ⟨k - 1, by omega⟩
    simp only [laws_toTaskS.l0]
    rw [if_neg (by omega)]
    congr 1
    apply List.ext_getElem?
    intro j
    by_cases hj : (j : Int) < i
    · exact hx j hj
    · rw [List.getElem?_eq_none (by omega), List.getElem?_eq_none (by rw [List.length_map]; omega)]
  | succ d ih =>
    intro k x i h0 h1 hd hk hl hx
    obtain ⟨k, rfl⟩ : ∃ m, k = m + 1 := ⟨k - 1, by omega⟩
    obtain ⟨e1, e2⟩ := rdt l i h0 (by omega)
    have hs := hb _ e2
    simp only [laws_toTaskS.l0, laws_toTask.f, laws_toExpr.f]
    rw [if_pos (by omega), if_pos h0, toStmt_tells _ (by omega) k (by omega)]
    simp only [Option.bind_some]
    rw [if_pos (by omega), w64 (n := i + 1) (by omega) (by omega)]
    refine ih k _ (i + 1) (by omega) (by omega) (by omega) (by omega) (by simp [hl]) ?_
    intro j hj
    by_cases e : (j : Int) = i
    · have e2 : j = i.toNat := by omega
      subst e2
      rw [e1, List.getElem?_set_self (by omega)]
      rfl
    · rw [List.getElem?_set_ne (by omega)]
      exact hx j (by omega)
theorem toProg_tells (l : List S100) (h : (l.length : Int) ≤ 1048576) (hb : ∀ s ∈ l, s.f0.length ≤ 1048576) (k : Nat) (hk : l.length + 1048580 ≤ k) : laws_toProgram.f k l = some (l.map cnvT) := by
  unfold laws_toProgram.f laws_toTaskS.f
  rw [if_pos (by omega), if_pos (by omega), toTask_loop l h hb l.length k _ 0 (by omega) (by omega) (by omega) (by omega) (by simp) (fun j hj => by omega)]
  rfl
theorem small_map (l : List S100) (h : (l.length : Int) ≤ 1048576) (hb : ∀ s ∈ l, s.f0.length ≤ 1048576) : Small (l.map cnvT) := by
  refine ⟨by rw [List.length_map]; omega, fun s hs => ?_⟩
  obtain ⟨a, ha, rfl⟩ := List.mem_map.1 hs
  have := hb a ha
  unfold cnvT
  simp only [List.length_map]
  exact this
theorem eqTask_loop (l : List S62) (hz : Small l) (d : Nat) : ∀ (k : Nat) (i : Int), 0 ≤ i → i ≤ l.length → (l.length : Int) - i = d → d + 1048577 < k → laws_eqTaskS.l0 k l l i = some true := by
  have hz1 := hz.1
  induction d with
  | zero =>
    intro k i h0 h1 hd hk
    obtain ⟨k, rfl⟩ : ∃ m, k = m + 1 := ⟨k - 1, by omega⟩
    simp only [laws_eqTaskS.l0]
    rw [if_neg (by omega)]
  | succ d ih =>
    intro k i h0 h1 hd hk
    obtain ⟨k, rfl⟩ : ∃ m, k = m + 1 := ⟨k - 1, by omega⟩
    have hm : rd_T62 l i ∈ l := by
      have h : i.toNat < l.length := by omega
      unfold rd_T62
      rw [List.getD_eq_getElem?_getD, List.getElem?_eq_getElem h]
      exact List.getElem_mem h
    have hs := hz.2 _ hm
    simp only [laws_eqTaskS.l0, laws_eqTask.f, laws_eqExpr.f]
    rw [if_pos (by omega), if_pos h0, if_pos (by omega), eqStmt_self _ (by omega) k (by omega)]
    simp only [Option.bind_some, if_true]
    rw [w64 (n := i + 1) (by omega) (by omega)]
    exact ih k (i + 1) (by omega) (by omega) (by omega) (by omega)
theorem eqProg_self (l : List S62) (hz : Small l) (k : Nat) (hk : l.length + 1048580 ≤ k) : laws_eqProgram.f k l l = some true := by
  unfold laws_eqProgram.f laws_eqTaskS.f
  have hz1 := hz.1
  rw [if_pos rfl, eqTask_loop l hz l.length k 0 (by omega) (by omega) (by omega) (by omega)]
  rfl
theorem szTask_loop (suf : List S100) : ∀ (k : Nat) (pre x : List S100) (a : Int), x = pre ++ suf → (x.length : Int) ≤ 1048576 → (∀ s ∈ x, s.f0.length ≤ maxLen) → suf.length < k → 0 ≤ a → a ≤ 1048576 →
    ∃ t, laws_szTaskS.l0 k x a (pre.length : Int) = some t ∧ (t < 0 ∨ ∀ s ∈ suf, s.f0.length ≤ 1048576) := by
  have hm : (maxLen : Int) ≤ 9223372036854775807 := by decide
  induction suf with
  | nil =>
    intro k pre x a hx hz hb hk a0 a1
    obtain ⟨k, rfl⟩ : ∃ m, k = m + 1 := ⟨k - 1, by omega⟩
    have hl : x.length = pre.length := by simp [hx]
    simp only [laws_szTaskS.l0]
    rw [if_neg (by omega)]
    exact ⟨a, rfl, Or.inr (fun s hs => by simp at hs)⟩
  | cons b t ih =>
    intro k pre x a hx hz hb hk a0 a1
    simp only [List.length_cons] at hk
    obtain ⟨k, rfl⟩ : ∃ m, k = m + 1 := ⟨k - 1, by omega⟩
    have hl : x.length = pre.length + (t.length + 1) := by simp [hx]
    have hr : rd_T100 x (pre.length : Int) = b := by rw [hx]; unfold rd_T100; simp [List.getD]
    have hn : ((pre.length : Int) + 1) = (((pre ++ [b]).length : Nat) : Int) := by simp
    have hbl := hb b (by simp [hx])
    simp only [laws_szTaskS.l0, laws_szTask.f, laws_szStmtS.f]
    rw [if_pos (by omega), if_pos (by omega), hr, w64 (n := a - (b.f0.length : Int)) (by omega) (by omega)]
    by_cases c : a - (b.f0.length : Int) < 0
    · rw [if_pos c]
      exact ⟨-1, by simp, Or.inl (by omega)⟩
    · rw [if_neg c]
      simp only [Option.bind_some]
      rw [if_neg c]
      simp only [Option.bind_some]
      rw [if_neg c, w64 (n := (pre.length : Int) + 1) (by omega) (by omega), hn]
      obtain ⟨r, e, h⟩ := ih k (pre ++ [b]) x (a - (b.f0.length : Int)) (by simp [hx]) hz hb (by omega) (by omega) (by omega)
      refine ⟨r, e, h.imp_right (fun h s hs => ?_)⟩
      rcases List.mem_cons.1 hs with rfl | hs
      · omega
      · exact h s hs
theorem szProg_tells (l : List S100) (hl : l.length ≤ maxLen) (hb : ∀ s ∈ l, s.f0.length ≤ maxLen) (k : Nat) (hk : l.length + 2 ≤ k) : ∃ t, laws_szProgram.f k l 1048576 = some t ∧ (t < 0 ∨ (l.length : Int) ≤ 1048576 ∧ ∀ s ∈ l, s.f0.length ≤ 1048576) := by
  have hm : (maxLen : Int) ≤ 9223372036854775807 := by decide
  unfold laws_szProgram.f laws_szTaskS.f
  rw [w64 (by omega) (by omega)]
  by_cases c : 1048576 - (l.length : Int) < 0
  · rw [if_pos c]; exact ⟨-1, by simp, Or.inl (by omega)⟩
  · rw [if_neg c]
    obtain ⟨r, e, h⟩ := szTask_loop l k [] l (1048576 - (l.length : Int)) rfl (by omega) hb (by omega) (by omega) (by omega)
    simp only [List.length_nil] at e
    rw [show ((0 : Nat) : Int) = 0 from rfl] at e
    rw [e]
    simp only [Option.bind_some]
    by_cases c2 : r < 0
    · rw [if_pos c2]; exact ⟨-1, rfl, Or.inl (by omega)⟩
    · rw [if_neg c2]; exact ⟨r, rfl, h.imp_right (fun h => ⟨by omega, h⟩)⟩
theorem pack_eq (a b c : Int) : impl_PackControl.f a b c = some (if 0 ≤ a ∧ a ≤ 5 ∧ 0 ≤ b ∧ b ≤ 8 ∧ 0 ≤ c ∧ c ≤ 24 then a + 8 * (b + 16 * c) else -1) := by
  unfold impl_PackControl.f
  simp only [within_eq, Option.bind_some, decide_eq_true_eq]
  by_cases h1 : 0 ≤ a ∧ a ≤ 5
  · rw [if_pos h1]
    by_cases h2 : 0 ≤ b ∧ b ≤ 8
    · rw [if_pos h2]
      by_cases h3 : 0 ≤ c ∧ c ≤ 24
      · rw [if_pos h3, if_pos (by omega)]
        congr 1
        rw [w64 (n := 16 * c) (by omega) (by omega), w64 (n := b + 16 * c) (by omega) (by omega), w64 (n := 8 * (b + 16 * c)) (by omega) (by omega), w64 (by omega) (by omega)]
      · rw [if_neg h3, if_neg (by omega)]
    · rw [if_neg h2, if_neg (by omega)]
  · rw [if_neg h1, if_neg (by omega)]
/-- What a word holds, as numbers: nothing (three times -1) where it is no word. -/
def unp (w : Int) : Int × Int × Int := if 0 ≤ w ∧ w % 8 ≤ 5 ∧ w / 8 % 16 ≤ 8 ∧ w / 128 ≤ 24 then (w % 8, w / 8 % 16, w / 128) else (-1, -1, -1)
theorem unpack_eq (w : Int) (hw : w ≤ 9223372036854775807) : impl_UnpackControl.f w = some (unp w) := by
  unfold impl_UnpackControl.f unp
  by_cases h : w < 0
  · rw [if_pos h, if_neg (by omega)]
  · rw [if_neg h]
    rw [Int.tmod_eq_emod_of_nonneg (by omega : 0 ≤ w), Int.tdiv_eq_ediv_of_nonneg (by omega : 0 ≤ w), Int.tdiv_eq_ediv_of_nonneg (by omega : 0 ≤ w)]
    rw [w64 (n := w / 8) (by omega) (by omega), w64 (n := w / 128) (by omega) (by omega)]
    rw [Int.tmod_eq_emod_of_nonneg (by omega : 0 ≤ w / 8)]
    rw [pack_eq]
    simp only [Option.bind_some]
    by_cases c : 0 ≤ w ∧ w % 8 ≤ 5 ∧ w / 8 % 16 ≤ 8 ∧ w / 128 ≤ 24
    · rw [if_pos (by omega : 0 ≤ w % 8 ∧ w % 8 ≤ 5 ∧ 0 ≤ w / 8 % 16 ∧ w / 8 % 16 ≤ 8 ∧ 0 ≤ w / 128 ∧ w / 128 ≤ 24), if_pos c, if_pos (by omega)]
    · rw [if_neg c, if_neg (by omega)]
theorem spack_eq (a b c : Int) : spec_PackControl.f a b c = impl_PackControl.f a b c := by
  unfold spec_PackControl.f impl_PackControl.f
  simp only [in_eq, within_eq]
theorem sunpack_eq (w : Int) (hb : w ≤ 9223372036854775807) (k : Nat) (hk : 1 ≤ k) : spec_UnpackControl.f k w = some (unp w) := by
  obtain ⟨k, rfl⟩ : ∃ m, k = m + 1 := ⟨k - 1, by omega⟩
  unfold spec_UnpackControl.f
  by_cases h : w < 0
  · rw [if_pos h]; unfold unp; rw [if_neg (by omega)]; simp [spec_UnpackControl.j0]
  · rw [if_neg h]
    simp only [spec_UnpackControl.j0]
    by_cases h2 : w > 100000
    · rw [if_pos (by simp; omega)]; unfold unp; rw [if_neg (by omega)]
    · rw [if_neg (by simp; omega), spack_eq, ← unpack_eq w hb]
      unfold impl_UnpackControl.f
      rw [if_neg h]
theorem unp_in (w : Int) : (unp w).1 ≤ 5 ∧ (unp w).2.1 ≤ 8 ∧ (unp w).2.2 ≤ 24 := by
  unfold unp
  by_cases c : 0 ≤ w ∧ w % 8 ≤ 5 ∧ w / 8 % 16 ≤ 8 ∧ w / 128 ≤ 24
  · rw [if_pos c]; exact c.2
  · rw [if_neg c]; decide
def val (x : Int) : Bool := decide (-1000000 ≤ x ∧ x ≤ 1000000)
theorem ivals (l : List Int) : impl_areValues.f l = some (l.all val) := rfl
theorem svals_loop (l : List Int) (sz : (l.length : Int) ≤ 1048576) (d : Nat) : ∀ (k : Nat) (i : Int), 0 ≤ i → i ≤ l.length → (l.length : Int) - i = d → d < k → (∀ j : Nat, (j : Int) < i → decide (-1000000 ≤ rd l j ∧ rd l j ≤ 1000000) = true) →
    spec_l09Values.l0 k l i = some (l.all val) := by
  induction d with
  | zero =>
    intro k i h0 h1 hd hk hA
    obtain ⟨k, rfl⟩ : ∃ m, k = m + 1 := ⟨k - 1, by omega⟩
    simp only [spec_l09Values.l0]
    rw [if_neg (by omega)]
    have h := impl_areValues.none l i (by omega) hA
    congr 1
    exact h.symm
  | succ d ih =>
    intro k i h0 h1 hd hk hA
    obtain ⟨k, rfl⟩ : ∃ m, k = m + 1 := ⟨k - 1, by omega⟩
    simp only [spec_l09Values.l0]
    rw [if_pos (by omega), if_pos h0]
    unfold spec_IsValue.f
    rw [in_eq]
    simp only [Option.bind_some]
    by_cases c : decide (-1000000 ≤ rd l i ∧ rd l i ≤ 1000000) = true
    · rw [if_pos c, w64 (n := i + 1) (by omega) (by omega)]
      exact ih k (i + 1) (by omega) (by omega) (by omega) (by omega) (impl_areValues.before l i h0 (by omega) hA c)
    · rw [if_neg c]
      have h := impl_areValues.some_ l i h0 (by omega) (Bool.eq_false_iff.mpr c)
      congr 1
      exact h.symm
theorem svals (l : List Int) (sz : (l.length : Int) ≤ 1048576) (k : Nat) (hk : l.length < k) : spec_l09Values.f k l = some (l.all val) := by
  unfold spec_l09Values.f
  exact svals_loop l sz l.length k 0 (by omega) (by omega) (by omega) hk (fun j hj => by omega)
theorem mloop (m : List Int) (hm : m.length = 49) (c : Int) (hc : c ≤ 8) (d : Nat) : ∀ (k : Nat) (i : Int), 0 ≤ i → (c - i).toNat = d → d < k → ∃ r, impl_MemOk.l0 k m c i = some r ∧ spec_MemOk.l0 k m c i = some r := by
  induction d with
  | zero =>
    intro k i h0 hd hk
    obtain ⟨k, rfl⟩ : ∃ m, k = m + 1 := ⟨k - 1, by omega⟩
    simp only [impl_MemOk.l0, spec_MemOk.l0]
    rw [if_neg (by omega), if_neg (by omega)]
    exact ⟨_, rfl, rfl⟩
  | succ d ih =>
    intro k i h0 hd hk
    obtain ⟨k, rfl⟩ : ∃ m, k = m + 1 := ⟨k - 1, by omega⟩
    simp only [impl_MemOk.l0, spec_MemOk.l0]
    have i7 : i < c := by omega
    rw [w64 (n := 2 * i) (by omega) (by omega), w64 (n := 9 + 2 * i) (by omega) (by omega), w64 (n := 9 + 2 * i + 1) (by omega) (by omega), w64 (n := i + 1) (by omega) (by omega)]
    unfold spec_IsValue.f impl_IsValue.f
    rw [isVar_eq, in_eq, in_eq, within_eq]
    simp only [Option.bind_some]
    rw [if_pos i7, if_pos i7, if_pos (show 0 ≤ 9 + 2 * i by omega), if_pos (show 9 + 2 * i < (m.length : Int) by omega), if_pos (show 0 ≤ 9 + 2 * i by omega), if_pos (show 9 + 2 * i < (m.length : Int) by omega)]
    by_cases a : decide (0 ≤ rd m (9 + 2 * i) ∧ rd m (9 + 2 * i) ≤ 7) = true
    · rw [if_pos a, if_pos a, if_pos (show 0 ≤ 9 + 2 * i + 1 by omega), if_pos (show 9 + 2 * i + 1 < (m.length : Int) by omega), if_pos (show 0 ≤ 9 + 2 * i + 1 by omega), if_pos (show 9 + 2 * i + 1 < (m.length : Int) by omega)]
      by_cases b : decide (-1000000 ≤ rd m (9 + 2 * i + 1) ∧ rd m (9 + 2 * i + 1) ≤ 1000000) = true
      · rw [if_pos b, if_pos b]
        exact ih k (i + 1) (by omega) (by omega) (by omega)
      · rw [if_neg b, if_neg b]
        exact ⟨_, rfl, rfl⟩
    · rw [if_neg a, if_neg a]
      exact ⟨_, rfl, rfl⟩
theorem mem_same (x : List S62) (hz : Small x) (m : List Int) (hw : ∀ y ∈ m, (Lit.int .i64 y).wf = true) (sm : (m.length : Int) ≤ 1048576) (k : Nat) (hk : x.length + m.length + 2097200 ≤ k) : ∃ r, spec_MemOk.f k x m = some r ∧ impl_MemOk.f k x m = some r := by
  obtain ⟨k, rfl⟩ : ∃ q, k = q + 2 := ⟨k - 2, by omega⟩
  have hz1 := hz.1
  unfold spec_MemOk.f impl_MemOk.f
  rw [sprog x hz _ (by omega), iprog x hz _ (by omega)]
  simp only [Option.bind_some]
  have st : spec_MemOk.j0 (k + 2) m true x = some false := by simp [spec_MemOk.j0]
  have it : impl_MemOk.j0 (k + 2) m true x = some false := by simp [impl_MemOk.j0]
  by_cases hp : pok x = true
  · rw [if_pos hp, if_pos hp]
    by_cases h49 : (m.length : Int) = 49
    · have hm : m.length = 49 := by omega
      have e49 : ((m.length : Int) != 49) = false := by rw [h49]; rfl
      rw [e49, if_pos h49, if_pos (by omega), ivals]
      simp only [Option.bind_some]
      have hr8 : rd m 8 ∈ m := by
        unfold Go.Proofs.YtkjdhmffknahgaaW.PrintWords.rd
        rw [List.getD_eq_getElem?_getD, List.getElem?_eq_getElem (show (8 : Int).toNat < m.length by show 8 < m.length; omega)]
        exact List.getElem_mem _
      have hb := wf64 (hw _ hr8)
      have hu := unp_in (rd m 8)
      have hu0 : (unp (rd m 8)).1 < 0 ∨ 0 ≤ (unp (rd m 8)).2.1 ∧ 0 ≤ (unp (rd m 8)).2.2 := by
        unfold unp
        by_cases c : 0 ≤ rd m 8 ∧ rd m 8 % 8 ≤ 5 ∧ rd m 8 / 8 % 16 ≤ 8 ∧ rd m 8 / 128 ≤ 24
        · rw [if_pos c]; right; simp only; omega
        · rw [if_neg c]; left; decide
      have hs : spec_MemOk.j0 (k + 2) m false x = if (unp (rd m 8)).1 < 0 then spec_MemOk.j1 (k + 1) m (unp (rd m 8)).2.1 true else if (unp (rd m 8)).1 ≥ (x.length : Int) then spec_MemOk.j1 (k + 1) m (unp (rd m 8)).2.1 true else if (m.take 8).all val = true then (if 25 ≤ wrap64 (25 + (unp (rd m 8)).2.2) then (if wrap64 (25 + (unp (rd m 8)).2.2) ≤ (m.length : Int) then ((spec_l09Values.f (k + 1) ((m.take (wrap64 (25 + (unp (rd m 8)).2.2)).toNat).drop 25)).bind fun t => spec_MemOk.j1 (k + 1) m (unp (rd m 8)).2.1 (!t)) else none) else none) else spec_MemOk.j1 (k + 1) m (unp (rd m 8)).2.1 true := by
        simp only [spec_MemOk.j0, Bool.false_eq_true, if_false]
        rw [if_pos (show 8 < (m.length : Int) by omega), sunpack_eq _ hb.2 _ (by omega)]
        simp only [Option.bind_some]
        rw [if_pos (show 8 ≤ (m.length : Int) by omega), svals (m.take 8) (by rw [List.length_take]; omega) _ (by rw [List.length_take]; omega)]
        simp only [Option.bind_some]
      have hi : impl_MemOk.j0 (k + 2) m false x = if (unp (rd m 8)).1 < 0 then impl_MemOk.j1 (k + 1) m (unp (rd m 8)).2.1 true else if (unp (rd m 8)).1 ≥ (x.length : Int) then impl_MemOk.j1 (k + 1) m (unp (rd m 8)).2.1 true else (if 25 ≤ wrap64 (25 + (unp (rd m 8)).2.2) then (if wrap64 (25 + (unp (rd m 8)).2.2) ≤ (m.length : Int) then ((impl_areValues.f ((m.take (wrap64 (25 + (unp (rd m 8)).2.2)).toNat).drop 25)).bind fun t => impl_MemOk.j1 (k + 1) m (unp (rd m 8)).2.1 (!t)) else none) else none) := by
        simp only [impl_MemOk.j0, Bool.false_eq_true, if_false]
        rw [if_pos (show 8 < (m.length : Int) by omega), unpack_eq _ hb.2]
        simp only [Option.bind_some]
      have s1 : ∀ c, spec_MemOk.j1 (k + 1) m c true = some false := fun c => by simp [spec_MemOk.j1]
      have i1 : ∀ c, impl_MemOk.j1 (k + 1) m c true = some false := fun c => by simp [impl_MemOk.j1]
      generalize unp (rd m 8) = u at *
      obtain ⟨t, c, n⟩ := u
      simp only at *
      by_cases v1 : (m.take 8).all val = true
      · rw [v1, Bool.not_true, hs, hi]
        by_cases c1 : t < 0
        · rw [if_pos c1, if_pos c1, s1, i1]; exact ⟨_, rfl, rfl⟩
        · rw [if_neg c1, if_neg c1]
          by_cases c2 : t ≥ (x.length : Int)
          · rw [if_pos c2, if_pos c2, s1, i1]; exact ⟨_, rfl, rfl⟩
          · rw [if_neg c2, if_neg c2, if_pos v1, w64 (n := 25 + n) (by omega) (by omega), if_pos (by omega), if_pos (by omega), if_pos (by omega), if_pos (by omega), ivals, svals _ (by rw [List.length_drop, List.length_take]; omega) _ (by rw [List.length_drop, List.length_take]; omega)]
            simp only [Option.bind_some]
            by_cases v2 : ((m.take (25 + n).toNat).drop 25).all val = true
            · rw [v2, Bool.not_true]
              simp only [spec_MemOk.j1, impl_MemOk.j1, Bool.false_eq_true, if_false]
              obtain ⟨r, h1, h2⟩ := mloop m hm c hu.2.1 (c - 0).toNat k 0 (by omega) rfl (by omega)
              exact ⟨r, h2, h1⟩
            · rw [Bool.eq_false_iff.mpr v2, Bool.not_false, s1, i1]; exact ⟨_, rfl, rfl⟩
      · rw [Bool.eq_false_iff.mpr v1, Bool.not_false, it, hs]
        refine ⟨false, ?_, rfl⟩
        rw [s1, if_neg v1]
        split
        · rfl
        · split <;> rfl
    · have e49 : ((m.length : Int) != 49) = true := by simp; omega
      rw [e49, if_neg h49, st, it]; exact ⟨_, rfl, rfl⟩
  · rw [if_neg hp, if_neg hp, st, it]; exact ⟨_, rfl, rfl⟩
theorem FnExactMemOk : laws_FnExactMemOk.Pure := by
  intro l v hl hw _ hv
  obtain ⟨K, hK⟩ : ∃ K, l.length + v.length + 4000000 < K := ⟨_, Nat.lt_succ_self _⟩
  obtain ⟨t, et, ht⟩ := szProg_tells l hl (fun s hs => (hw s hs).1.1) K (by omega)
  refine ⟨K, ?_⟩
  unfold laws_FnExactMemOk.f
  by_cases cv : (v.length : Int) > 1048576
  · rw [if_pos cv]
  · rw [if_neg cv, et]
    simp only [Option.bind_some]
    by_cases c : t < 0
    · rw [if_pos c]
    · rw [if_neg c]
      obtain ⟨sz, hb⟩ : (l.length : Int) ≤ 1048576 ∧ ∀ s ∈ l, s.f0.length ≤ 1048576 := ht.resolve_left c
      have hs := small_map l sz hb
      have hlen : (l.map cnvT).length = l.length := List.length_map ..
      obtain ⟨r, h1, h2⟩ := mem_same (l.map cnvT) hs v hv (by omega) K (by omega)
      rw [toProg_tells l sz hb K (by omega), toInt_tells v (by omega) K (by omega)]
      simp only [Option.bind_some]
      rw [h1, h2]
      simp only [Option.bind_some, bne_self_eq_false, Bool.false_eq_true, if_false]
      rw [eqProg_self _ hs K (by omega)]
      simp only [Option.bind_some, if_true]
      rw [eqInt_self v (by omega) K (by omega)]
      simp

end Go.Proofs.Ytkjdhmffknahgaa.Pure
