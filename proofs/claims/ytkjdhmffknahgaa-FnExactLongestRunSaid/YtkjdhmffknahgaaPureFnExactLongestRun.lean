/- The program's LongestRun and the reference's return the same for all statements, and leave them as they were; no condition. -/
import Derived.Test.YtkjdhmffknahgaaPFnExactLongestRunx9
namespace Go.Proofs.Ytkjdhmffknahgaa.Pure
open Go.RowKit Go.Proofs.Ytkjdhmffknahgaa.PFnExactLongestRun Go.Proofs.YtkjdhmffknahgaaW.PrintWords Go.Proofs.YtkjdhmffknahgaaW.PrintLast
set_option linter.unusedVariables false
set_option linter.unusedSimpArgs false

theorem w64 {n : Int} (h1 : -9223372036854775808 ≤ n) (h2 : n ≤ 9223372036854775807) : wrap64 n = n := by unfold wrap64; omega
theorem w64_in (n : Int) : -9223372036854775808 ≤ wrap64 n ∧ wrap64 n ≤ 9223372036854775807 := by unfold wrap64; omega
theorem wf64 {n : Int} (h : (Lit.int .i64 n).wf = true) : -9223372036854775808 ≤ n ∧ n ≤ 9223372036854775807 := by
  simp only [Lit.wf, IntKind.min, IntKind.max, IntKind.signed, IntKind.bits, Bool.and_eq_true, decide_eq_true_eq, if_true] at h
  omega
theorem wfu8 {n : Int} (h : (Lit.int .u8 n).wf = true) : 0 ≤ n ∧ n ≤ 255 := by
  simp [Lit.wf, IntKind.min, IntKind.max, IntKind.signed, IntKind.bits] at h
  omega
theorem and_in (x : Int) (m : Nat) (hm : m < 9223372036854775808) : 0 ≤ Go.bits .and .i64 x (m : Int) ∧ Go.bits .and .i64 x (m : Int) ≤ m := by
  have h1 : (BitVec.ofInt 64 x &&& BitVec.ofInt 64 (m : Int)).toNat ≤ m := by
    rw [BitVec.toNat_and]
    refine Nat.le_trans Nat.and_le_right ?_
    rw [BitVec.ofInt_natCast, BitVec.toNat_ofNat]
    exact Nat.mod_le _ _
  have h2 : Go.bits .and .i64 x (m : Int) = IntKind.i64.wrap (((BitVec.ofInt 64 x &&& BitVec.ofInt 64 (m : Int)).toNat : Nat) : Int) := rfl
  rw [h2, Go.IntKind.wrap_i64]
  omega
theorem and255 (x : Int) : 0 ≤ Go.bits .and .i64 x 255 ∧ Go.bits .and .i64 x 255 ≤ 255 := and_in x 255 (by decide)
theorem tmod_in (x n : Int) (h0 : 0 ≤ x) (h : 1 ≤ n) : 0 ≤ Int.tmod x n ∧ Int.tmod x n < n := ⟨Int.tmod_nonneg _ h0, Int.tmod_lt_of_pos _ (by omega)⟩
theorem in_eq (a b c : Int) : spec_l01In.f a b c = some (decide (b ≤ a ∧ a ≤ c)) := by
  unfold spec_l01In.f
  by_cases h : a ≥ b
  · rw [if_pos h]; simp; omega
  · rw [if_neg h]; simp; omega
theorem within_eq (a b c : Int) : impl_within.f a b c = some (decide (b ≤ a ∧ a ≤ c)) := by
  unfold impl_within.f
  by_cases h : a ≥ b
  · rw [if_pos h]; simp; omega
  · rw [if_neg h]; simp; omega
/-- A valid expression. -/
def eok (o a b : Int) : Bool := decide (1 ≤ o ∧ o ≤ 7) && (decide (-8 ≤ a ∧ a ≤ 999) && decide (-8 ≤ b ∧ b ≤ 999))
theorem iexpr (o a b : Int) : impl_ExprOk.f o a b = some (eok o a b) := by
  unfold impl_ExprOk.f impl_OperandOk.f eok
  simp only [within_eq, Option.bind_some]
  cases decide (1 ≤ o ∧ o ≤ 7) <;> cases decide (-8 ≤ a ∧ a ≤ 999) <;> simp
theorem eok_in {o a b : Int} (h : eok o a b = true) : (1 ≤ o ∧ o ≤ 7) ∧ (-8 ≤ a ∧ a ≤ 999) ∧ (-8 ≤ b ∧ b ≤ 999) := by
  unfold eok at h
  simp only [Bool.and_eq_true, decide_eq_true_eq] at h
  exact h
theorem sexpr (o a b : Int) : spec_ExprOk.f o a b = some (eok o a b) := by
  unfold spec_ExprOk.f spec_OperandOk.f eok
  simp only [in_eq, Option.bind_some]
  cases decide (1 ≤ o ∧ o ≤ 7) <;> cases decide (-8 ≤ a ∧ a ≤ 999) <;> simp
/-- A valid statement. -/
def zok (o a b : Int) : Bool := decide (o = 0) && (decide (a = 0) && decide (b = 0))
def sok (c v n o a b : Int) : Bool :=
  if c = 1 then decide (0 ≤ v ∧ v ≤ 7) && (decide (n = 0) && eok o a b)
  else if c = 2 then decide (0 ≤ v ∧ v ≤ 7) && (decide (0 ≤ n ∧ n ≤ 3) && zok o a b)
  else if c = 3 then decide (v = 0) && (decide (n = 0) && eok o a b)
  else if c = 4 then decide (v = 0) && (decide (n = 0) && eok o a b)
  else if c = 5 then decide (v = 0) && (decide (1 ≤ n ∧ n ≤ 5) && zok o a b)
  else if c = 6 then decide (v = 0) && (decide (n = 0) && zok o a b)
  else false
theorem hasVar_eq (c : Int) : impl_hasVar.f c = some (decide (c = 1 ∨ c = 2)) := by
  unfold impl_hasVar.f
  by_cases h : c = 1
  · rw [if_pos h]; simp [h]
  · rw [if_neg h]; simp [h]; rfl
theorem hasExpr_eq (c : Int) : impl_hasExpr.f c = some (decide (c = 1 ∨ c = 3 ∨ c = 4)) := by
  unfold impl_hasExpr.f
  by_cases h : c = 1
  · rw [if_pos h]; simp [h]
  · rw [if_neg h]
    by_cases h2 : c = 3
    · rw [if_pos h2]; simp [h2]
    · rw [if_neg h2]; simp [h, h2]; rfl
theorem isVar_eq (v : Int) : impl_isVar.f v = some (decide (0 ≤ v ∧ v ≤ 7)) := by
  unfold impl_isVar.f; rw [within_eq]; rfl
theorem isSensor_eq (v : Int) : impl_isSensor.f v = some (decide (0 ≤ v ∧ v ≤ 3)) := by
  unfold impl_isSensor.f; rw [within_eq]; rfl
theorem istmt (c v n o a b : Int) (k : Nat) (hk : 2 ≤ k) : impl_StmtOk.f k c v n o a b = some (sok c v n o a b) := by
  obtain ⟨k, rfl⟩ : ∃ m, k = m + 2 := ⟨k - 2, by omega⟩
  unfold impl_StmtOk.f sok zok
  simp only [within_eq, hasVar_eq, isVar_eq, hasExpr_eq, isSensor_eq, iexpr, Option.bind_some, impl_StmtOk.j0, impl_StmtOk.j1]
  by_cases h1 : c = 1
  · subst h1
    cases decide (0 ≤ v ∧ v ≤ 7) <;> cases eok o a b <;> by_cases hn : n = 0 <;> simp [hn]
  · by_cases h2 : c = 2
    · subst h2
      cases decide (0 ≤ v ∧ v ≤ 7) <;> cases decide (0 ≤ n ∧ n ≤ 3) <;> by_cases ho : o = 0 <;> by_cases ha : a = 0 <;> by_cases hb : b = 0 <;> simp [ho, ha, hb]
    · by_cases h3 : c = 3
      · subst h3
        cases eok o a b <;> by_cases hn : n = 0 <;> by_cases hv : v = 0 <;> simp [hn, hv]
      · by_cases h4 : c = 4
        · subst h4
          cases eok o a b <;> by_cases hn : n = 0 <;> by_cases hv : v = 0 <;> simp [hn, hv]
        · by_cases h5 : c = 5
          · subst h5
            cases decide (1 ≤ n ∧ n ≤ 5) <;> by_cases hv : v = 0 <;> by_cases ho : o = 0 <;> by_cases ha : a = 0 <;> by_cases hb : b = 0 <;> simp [hv, ho, ha, hb]
          · by_cases h6 : c = 6
            · subst h6
              by_cases hn : n = 0 <;> by_cases hv : v = 0 <;> by_cases ho : o = 0 <;> by_cases ha : a = 0 <;> by_cases hb : b = 0 <;> simp [hn, hv, ho, ha, hb]
            · have hw : ¬ (1 ≤ c ∧ c ≤ 6) := by omega
              simp [h1, h2, h3, h4, h5, h6, hw]
theorem sstmt (c v n o a b : Int) (k : Nat) (hk : 2 ≤ k) : spec_StmtOk.f k c v n o a b = some (sok c v n o a b) := by
  obtain ⟨k, rfl⟩ : ∃ m, k = m + 2 := ⟨k - 2, by omega⟩
  unfold spec_StmtOk.f spec_l04Plain.f sok zok
  simp only [in_eq, sexpr, Option.bind_some, spec_StmtOk.j0]
  by_cases h1 : c = 1
  · subst h1
    cases decide (0 ≤ v ∧ v ≤ 7) <;> cases eok o a b <;> by_cases hn : n = 0 <;> simp [hn]
  · by_cases h2 : c = 2
    · subst h2
      cases decide (0 ≤ v ∧ v ≤ 7) <;> cases decide (0 ≤ n ∧ n ≤ 3) <;> by_cases ho : o = 0 <;> by_cases ha : a = 0 <;> by_cases hb : b = 0 <;> simp [ho, ha, hb]
    · by_cases h3 : c = 3
      · subst h3
        cases eok o a b <;> by_cases hn : n = 0 <;> by_cases hv : v = 0 <;> simp [hn, hv]
      · by_cases h4 : c = 4
        · subst h4
          cases eok o a b <;> by_cases hn : n = 0 <;> by_cases hv : v = 0 <;> simp [hn, hv]
        · by_cases h5 : c = 5
          · subst h5
            cases decide (1 ≤ n ∧ n ≤ 5) <;> by_cases hv : v = 0 <;> by_cases ho : o = 0 <;> by_cases ha : a = 0 <;> by_cases hb : b = 0 <;> simp [hv, ho, ha, hb]
          · by_cases h6 : c = 6
            · subst h6
              by_cases hn : n = 0 <;> by_cases hv : v = 0 <;> by_cases ho : o = 0 <;> by_cases ha : a = 0 <;> by_cases hb : b = 0 <;> simp [hn, hv, ho, ha, hb]
            · by_cases hn : n = 0 <;> by_cases hv : v = 0 <;> by_cases ho : o = 0 <;> by_cases ha : a = 0 <;> by_cases hb : b = 0 <;> simp [h1, h2, h3, h4, h5, h6, hn, hv, ho, ha, hb]
theorem rd_app (pre : List S31) (a : S31) (t : List S31) : rd_T31 (pre ++ a :: t) (pre.length : Int) = a := by
  unfold rd_T31
  simp [List.getD]
def okS (s : S31) : Bool := sok s.f0 s.f1 s.f2 s.f3.f0 s.f3.f1 s.f3.f2
def opn (s : S31) : Bool := decide (s.f0 = 4 ∨ s.f0 = 5)
def del (s : S31) : Int := if s.f0 = 4 ∨ s.f0 = 5 then 1 else if s.f0 = 6 then -1 else 0
theorem del_in (s : S31) : -1 ≤ del s ∧ del s ≤ 1 := by unfold del; split <;> (try split) <;> omega
def scan : List S31 → Int → Option Int
  | [], d => some d
  | s :: t, d => if okS s = true then (if 0 ≤ d + del s ∧ d + del s ≤ 3 then scan t (d + del s) else none) else none
def fin (o : Option Int) (n : Nat) : Bool := decide (o = some 0) && decide (n ≤ 24)
/-- Whether the statements are a valid block. -/
def blk (l : List S31) : Bool := fin (scan l 0) l.length
theorem opening_eq (c : Int) : impl_isOpening.f c = some (decide (c = 4 ∨ c = 5)) := by
  unfold impl_isOpening.f
  by_cases h : c = 4
  · simp [h]
  · rw [if_neg h]; congr 1; rw [Bool.eq_iff_iff]; simp [h]
theorem iscan (suf : List S31) : ∀ (k : Nat) (pre x : List S31) (d : Int), x = pre ++ suf → x.length ≤ 140737488351232 → 2 * suf.length + 4 ≤ k → 0 ≤ d → d ≤ 3 →
    impl_BlockOk.l0 k x d x (x.length : Int) (pre.length : Int) = some (fin (scan suf d) x.length) := by
  induction suf with
  | nil =>
    intro k pre x d hx hz hk d0 d1
    obtain ⟨k, rfl⟩ : ∃ m, k = m + 1 := ⟨k - 1, by omega⟩
    have hl : x.length = pre.length := by simp [hx]
    unfold impl_BlockOk.l0
    rw [if_neg (by omega)]
    unfold scan fin
    by_cases c : d = 0
    · rw [if_pos c, c]; congr 1; simp; omega
    · rw [if_neg c]; simp [c]
  | cons a t ih =>
    intro k pre x d hx hz hk d0 d1
    simp only [List.length_cons] at hk
    obtain ⟨k, rfl⟩ : ∃ m, k = m + 2 := ⟨k - 2, by omega⟩
    have hl : x.length = pre.length + (t.length + 1) := by simp [hx]
    have hr : rd_T31 x (pre.length : Int) = a := by rw [hx]; exact rd_app pre a t
    have hn : ((pre.length : Int) + 1) = (((pre ++ [a]).length : Nat) : Int) := by simp
    unfold impl_BlockOk.l0
    rw [if_pos (by omega), if_pos (by omega), if_pos (by omega)]
    simp only [hr]
    rw [istmt _ _ _ _ _ _ _ (by omega)]
    simp only [Option.bind_some]
    have hs : ∀ e, scan (a :: t) e = if okS a = true then (if 0 ≤ e + del a ∧ e + del a ≤ 3 then scan t (e + del a) else none) else none := fun e => rfl
    rw [hs]
    by_cases ok : okS a = true
    · rw [if_pos ok]
      unfold okS at ok
      rw [if_pos ok, opening_eq]
      simp only [Option.bind_some, decide_eq_true_eq]
      have step : ∀ e : Int, 0 ≤ e → e ≤ 3 → impl_BlockOk.l0 k x e x (x.length : Int) (wrap64 ((pre.length : Int) + 1)) = some (fin (scan t e) x.length) := by
        intro e e0 e1
        rw [w64 (by omega) (by omega), hn]
        exact ih k (pre ++ [a]) x e (by simp [hx]) hz (by omega) e0 e1
      by_cases o : a.f0 = 4 ∨ a.f0 = 5
      · have hd : del a = 1 := by unfold del; rw [if_pos o]
        rw [if_pos o, hd, w64 (n := d + 1) (by omega) (by omega)]
        unfold impl_BlockOk.j1
        rw [if_neg (by omega), if_neg (by omega)]
        by_cases c : d + 1 > 3
        · rw [if_pos c, if_neg (by omega)]; simp [fin]
        · rw [if_neg c, if_pos (by omega)]
          exact step _ (by omega) (by omega)
      · rw [if_neg o]
        unfold impl_BlockOk.j1
        by_cases c6 : a.f0 = 6
        · have hd : del a = -1 := by unfold del; rw [if_neg o, if_pos c6]
          rw [if_pos c6, hd, w64 (n := d - 1) (by omega) (by omega)]
          by_cases c : d - 1 < 0
          · rw [if_pos c, if_neg (by omega)]; simp [fin]
          · rw [if_neg c, if_neg (by omega), if_pos (by omega)]
            exact step _ (by omega) (by omega)
        · have hd : del a = 0 := by unfold del; rw [if_neg o, if_neg c6]
          rw [if_neg c6, hd, if_neg (by omega), if_neg (by omega), if_pos (by omega), show d + 0 = d by omega]
          exact step _ (by omega) (by omega)
    · rw [if_neg ok]
      unfold okS at ok
      rw [if_neg ok]
      simp [fin]
theorem iblock (l : List S31) (hz : l.length ≤ 140737488351232) (k : Nat) (hk : 2 * l.length + 4 ≤ k) : impl_BlockOk.f k l = some (blk l) :=
  iscan l k [] l 0 rfl hz hk (by omega) (by omega)
theorem sscan (suf : List S31) : ∀ (k : Nat) (pre x : List S31) (d : Int), x = pre ++ suf → x.length ≤ 140737488351232 → 2 * suf.length + 4 ≤ k → 0 ≤ d → d ≤ 3 →
    spec_BlockOk.l0 k x d (pre.length : Int) = some (fin (scan suf d) x.length) := by
  induction suf with
  | nil =>
    intro k pre x d hx hz hk d0 d1
    obtain ⟨k, rfl⟩ : ∃ m, k = m + 1 := ⟨k - 1, by omega⟩
    have hl : x.length = pre.length := by simp [hx]
    unfold spec_BlockOk.l0
    rw [if_neg (by omega)]
    unfold scan fin
    by_cases c : d = 0
    · rw [if_pos c, c]; congr 1; simp; omega
    · rw [if_neg c]; simp [c]
  | cons a t ih =>
    intro k pre x d hx hz hk d0 d1
    simp only [List.length_cons] at hk
    obtain ⟨k, rfl⟩ : ∃ m, k = m + 2 := ⟨k - 2, by omega⟩
    have hl : x.length = pre.length + (t.length + 1) := by simp [hx]
    have hr : rd_T31 x (pre.length : Int) = a := by rw [hx]; exact rd_app pre a t
    have hn : ((pre.length : Int) + 1) = (((pre ++ [a]).length : Nat) : Int) := by simp
    unfold spec_BlockOk.l0
    rw [if_pos (by omega), if_pos (by omega)]
    simp only [hr]
    rw [sstmt _ _ _ _ _ _ _ (by omega)]
    simp only [Option.bind_some]
    have hs : ∀ e, scan (a :: t) e = if okS a = true then (if 0 ≤ e + del a ∧ e + del a ≤ 3 then scan t (e + del a) else none) else none := fun e => rfl
    rw [hs]
    by_cases ok : okS a = true
    · rw [if_pos ok]
      unfold okS at ok
      rw [if_pos ok]
      have step : ∀ e : Int, 0 ≤ e → e ≤ 3 → spec_BlockOk.l0 k x e (wrap64 ((pre.length : Int) + 1)) = some (fin (scan t e) x.length) := by
        intro e e0 e1
        rw [w64 (by omega) (by omega), hn]
        exact ih k (pre ++ [a]) x e (by simp [hx]) hz (by omega) e0 e1
      have hj : ∀ b : Bool, b = decide (a.f0 = 4 ∨ a.f0 = 5) → spec_BlockOk.j1 (k + 1) x d (pre.length : Int) a.f0 b = some (fin (if 0 ≤ d + del a ∧ d + del a ≤ 3 then scan t (d + del a) else none) x.length) := by
        intro b hb
        unfold spec_BlockOk.j1
        by_cases o : a.f0 = 4 ∨ a.f0 = 5
        · have hd : del a = 1 := by unfold del; rw [if_pos o]
          rw [if_pos (by rw [hb]; exact decide_eq_true o), hd, w64 (n := d + 1) (by omega) (by omega), in_eq]
          simp only [Option.bind_some, decide_eq_true_eq]
          by_cases c : 0 ≤ d + 1 ∧ d + 1 ≤ 3
          · rw [if_pos c, if_pos c]; exact step _ c.1 c.2
          · rw [if_neg c, if_neg c]; simp [fin]
        · rw [if_neg (by rw [hb]; simp; omega)]
          by_cases c6 : a.f0 = 6
          · have hd : del a = -1 := by unfold del; rw [if_neg o, if_pos c6]
            rw [if_pos c6, hd, w64 (n := d - 1) (by omega) (by omega), in_eq, show d + -1 = d - 1 by omega]
            simp only [Option.bind_some, decide_eq_true_eq]
            by_cases c : 0 ≤ d - 1 ∧ d - 1 ≤ 3
            · rw [if_pos c, if_pos c]; exact step _ c.1 c.2
            · rw [if_neg c, if_neg c]; simp [fin]
          · have hd : del a = 0 := by unfold del; rw [if_neg o, if_neg c6]
            rw [if_neg c6, hd, in_eq, show d + 0 = d by omega]
            simp only [Option.bind_some, decide_eq_true_eq]
            rw [if_pos ⟨d0, d1⟩, if_pos ⟨d0, d1⟩]; exact step _ d0 d1
      by_cases c4 : a.f0 = 4
      · rw [if_pos c4]
        exact hj _ (by simp [c4])
      · rw [if_neg c4]
        exact hj _ (by rw [Bool.eq_iff_iff]; simp [c4])
    · rw [if_neg ok]
      unfold okS at ok
      rw [if_neg ok]
      simp [fin]
theorem sblock (l : List S31) (hz : l.length ≤ 140737488351232) (k : Nat) (hk : 2 * l.length + 4 ≤ k) : spec_BlockOk.f k l = some (blk l) :=
  sscan l k [] l 0 rfl hz hk (by omega) (by omega)
/-- Where the statement that is opened ends: depth d at place p. -/
def fend : List S31 → Int → Int → Int
  | [], _, _ => -1
  | a :: t, d, p => if a.f0 = 6 ∧ d = 1 then p else fend t (d + del a) (p + 1)
theorem at_split (x : List S31) (i : Int) (h0 : 0 ≤ i) (h1 : i < (x.length : Int)) : ∃ pre a t, x = pre ++ a :: t ∧ (pre.length : Int) = i ∧ rd_T31 x i = a := by
  have h : i.toNat < x.length := by omega
  refine ⟨x.take i.toNat, x[i.toNat], x.drop (i.toNat + 1), ?_, ?_, ?_⟩
  · rw [List.getElem_cons_drop, List.take_append_drop]
  · rw [List.length_take]; omega
  · unfold rd_T31
    rw [List.getD_eq_getElem?_getD, List.getElem?_eq_getElem h]
    rfl
theorem iend (suf : List S31) : ∀ (k : Nat) (pre x : List S31) (d : Int), x = pre ++ suf → x.length ≤ 1048576 → 2 * suf.length + 1 ≤ k → (1 ≤ d ∨ 0 ≤ d ∧ ∃ a t, suf = a :: t ∧ (a.f0 = 4 ∨ a.f0 = 5)) → d ≤ pre.length →
    impl_endOf.l0 k x d (pre.length : Int) = some (fend suf d (pre.length : Int)) := by
  induction suf with
  | nil =>
    intro k pre x d hx hz hk d0 d1
    obtain ⟨k, rfl⟩ : ∃ m, k = m + 1 := ⟨k - 1, by omega⟩
    have hl : x.length = pre.length := by simp [hx]
    unfold impl_endOf.l0
    rw [if_neg (by omega)]
    rfl
  | cons a t ih =>
    intro k pre x d hx hz hk d0 d1
    simp only [List.length_cons] at hk
    obtain ⟨k, rfl⟩ : ∃ m, k = m + 2 := ⟨k - 2, by omega⟩
    have hl : x.length = pre.length + (t.length + 1) := by simp [hx]
    have hr : rd_T31 x (pre.length : Int) = a := by rw [hx]; exact rd_app pre a t
    have hn : ((pre.length : Int) + 1) = (((pre ++ [a]).length : Nat) : Int) := by simp
    have hf : fend (a :: t) d (pre.length : Int) = if a.f0 = 6 ∧ d = 1 then (pre.length : Int) else fend t (d + del a) ((pre.length : Int) + 1) := rfl
    have step : ∀ e : Int, 1 ≤ e → e ≤ (pre.length : Int) + 1 → impl_endOf.l0 k x e (wrap64 ((pre.length : Int) + 1)) = some (fend t e ((pre.length : Int) + 1)) := by
      intro e e0 e1
      rw [w64 (by omega) (by omega), hn]
      exact ih k (pre ++ [a]) x e (by simp [hx]) hz (by omega) (Or.inl e0) (by omega)
    unfold impl_endOf.l0
    rw [if_pos (by omega), if_pos (by omega)]
    simp only [hr]
    rw [opening_eq, hf]
    simp only [Option.bind_some, decide_eq_true_eq]
    have j : ∀ e : Int, impl_endOf.j1 (k + 1) x e (pre.length : Int) = if a.f0 = 6 then (if wrap64 (e - 1) = 0 then some (pre.length : Int) else impl_endOf.l0 k x (wrap64 (e - 1)) (wrap64 ((pre.length : Int) + 1))) else if e = 0 then some (pre.length : Int) else impl_endOf.l0 k x e (wrap64 ((pre.length : Int) + 1)) := by
      intro e
      unfold impl_endOf.j1
      rw [if_pos (by omega), if_pos (by omega)]
      simp only [hr]
    by_cases o : a.f0 = 4 ∨ a.f0 = 5
    · have hd : del a = 1 := by unfold del; rw [if_pos o]
      have d2 : 0 ≤ d := by omega
      rw [if_pos o, hd, w64 (n := d + 1) (by omega) (by omega), j, if_neg (by omega), if_neg (by omega), if_neg (by omega)]
      exact step _ (by omega) (by omega)
    · have d2 : 1 ≤ d := by
        rcases d0 with h | ⟨h, a', t', e1, e2⟩
        · exact h
        · cases e1; exact absurd e2 o
      rw [if_neg o, j]
      by_cases c6 : a.f0 = 6
      · have hd : del a = -1 := by unfold del; rw [if_neg o, if_pos c6]
        rw [if_pos c6, hd, w64 (n := d - 1) (by omega) (by omega)]
        by_cases c : d = 1
        · rw [if_pos (by omega), if_pos ⟨c6, c⟩]
        · rw [if_neg (by omega), if_neg (by omega), show d + -1 = d - 1 by omega]
          exact step _ (by omega) (by omega)
      · have hd : del a = 0 := by unfold del; rw [if_neg o, if_neg c6]
        rw [if_neg c6, hd, if_neg (by omega), if_neg (by omega), show d + 0 = d by omega]
        exact step _ (by omega) (by omega)
theorem sopens_eq (c v n o a b : Int) : spec_l05Opens.f c v n o a b = some (decide (c = 4 ∨ c = 5)) := by
  unfold spec_l05Opens.f
  by_cases h : c = 4
  · simp [h]
  · rw [if_neg h]; congr 1; rw [Bool.eq_iff_iff]; simp [h]
theorem send (suf : List S31) : ∀ (k : Nat) (pre x : List S31) (d : Int), x = pre ++ suf → x.length ≤ 1048576 → 2 * suf.length + 1 ≤ k → (1 ≤ d ∨ 0 ≤ d ∧ ∃ a t, suf = a :: t ∧ (a.f0 = 4 ∨ a.f0 = 5)) → d ≤ pre.length →
    spec_l05End.l0 k x d (pre.length : Int) = some (fend suf d (pre.length : Int)) := by
  induction suf with
  | nil =>
    intro k pre x d hx hz hk d0 d1
    obtain ⟨k, rfl⟩ : ∃ m, k = m + 1 := ⟨k - 1, by omega⟩
    have hl : x.length = pre.length := by simp [hx]
    unfold spec_l05End.l0
    rw [if_neg (by omega)]
    rfl
  | cons a t ih =>
    intro k pre x d hx hz hk d0 d1
    simp only [List.length_cons] at hk
    obtain ⟨k, rfl⟩ : ∃ m, k = m + 2 := ⟨k - 2, by omega⟩
    have hl : x.length = pre.length + (t.length + 1) := by simp [hx]
    have hr : rd_T31 x (pre.length : Int) = a := by rw [hx]; exact rd_app pre a t
    have hn : ((pre.length : Int) + 1) = (((pre ++ [a]).length : Nat) : Int) := by simp
    have hf : fend (a :: t) d (pre.length : Int) = if a.f0 = 6 ∧ d = 1 then (pre.length : Int) else fend t (d + del a) ((pre.length : Int) + 1) := rfl
    have step : ∀ e : Int, 1 ≤ e → e ≤ (pre.length : Int) + 1 → spec_l05End.l0 k x e (wrap64 ((pre.length : Int) + 1)) = some (fend t e ((pre.length : Int) + 1)) := by
      intro e e0 e1
      rw [w64 (by omega) (by omega), hn]
      exact ih k (pre ++ [a]) x e (by simp [hx]) hz (by omega) (Or.inl e0) (by omega)
    unfold spec_l05End.l0
    rw [if_pos (by omega), if_pos (by omega)]
    simp only [hr]
    rw [sopens_eq, hf]
    simp only [Option.bind_some, decide_eq_true_eq]
    have j : ∀ e : Int, spec_l05End.j1 (k + 1) x e (pre.length : Int) = if a.f0 = 6 then (if wrap64 (e - 1) = 0 then some (pre.length : Int) else spec_l05End.l0 k x (wrap64 (e - 1)) (wrap64 ((pre.length : Int) + 1))) else spec_l05End.l0 k x e (wrap64 ((pre.length : Int) + 1)) := by
      intro e
      unfold spec_l05End.j1
      rw [if_pos (by omega), if_pos (by omega)]
      simp only [hr]
    by_cases o : a.f0 = 4 ∨ a.f0 = 5
    · have hd : del a = 1 := by unfold del; rw [if_pos o]
      have d2 : 0 ≤ d := by omega
      rw [if_pos o, hd, w64 (n := d + 1) (by omega) (by omega), j, if_neg (by omega), if_neg (by omega)]
      exact step _ (by omega) (by omega)
    · have d2 : 1 ≤ d := by
        rcases d0 with h | ⟨h, a', t', e1, e2⟩
        · exact h
        · cases e1; exact absurd e2 o
      rw [if_neg o, j]
      by_cases c6 : a.f0 = 6
      · have hd : del a = -1 := by unfold del; rw [if_neg o, if_pos c6]
        rw [if_pos c6, hd, w64 (n := d - 1) (by omega) (by omega)]
        by_cases c : d = 1
        · rw [if_pos (by omega), if_pos ⟨c6, c⟩]
        · rw [if_neg (by omega), if_neg (by omega), show d + -1 = d - 1 by omega]
          exact step _ (by omega) (by omega)
      · have hd : del a = 0 := by unfold del; rw [if_neg o, if_neg c6]
        rw [if_neg c6, hd, if_neg (by omega), show d + 0 = d by omega]
        exact step _ (by omega) (by omega)
def tot : List S31 → Int
  | [] => 0
  | a :: s => del a + tot s
def mnp : List S31 → Int
  | [] => 0
  | a :: s => if del a + mnp s < 0 then del a + mnp s else 0
theorem mnp_le (s : List S31) : mnp s ≤ 0 ∧ mnp s ≤ tot s := by
  induction s with
  | nil => exact ⟨Int.le_refl _, Int.le_refl _⟩
  | cons a s ih => unfold mnp tot; split <;> omega
theorem tot_in (s : List S31) : -(s.length : Int) ≤ tot s ∧ tot s ≤ s.length := by
  induction s with
  | nil => exact ⟨by simp [tot], by simp [tot]⟩
  | cons a s ih => have := del_in a; unfold tot; simp only [List.length_cons]; omega
theorem tot_app (s r : List S31) : tot (s ++ r) = tot s + tot r := by
  induction s with
  | nil => simp [tot]
  | cons a s ih =>
    have h : tot (a :: s ++ r) = del a + tot (s ++ r) := rfl
    have h2 : tot (a :: s) = del a + tot s := rfl
    omega
theorem fend_app (s : List S31) : ∀ (r : List S31) (d p : Int), 1 ≤ d →
    (mnp s + d ≤ 0 → p ≤ fend (s ++ r) d p ∧ fend (s ++ r) d p < p + s.length) ∧ (1 ≤ mnp s + d → fend (s ++ r) d p = fend r (d + tot s) (p + s.length) ∧ 1 ≤ d + tot s) := by
  induction s with
  | nil =>
    intro r d p h
    refine ⟨fun c => ?_, fun c => ?_⟩
    · unfold mnp at c; omega
    · have e : tot ([] : List S31) = 0 := rfl
      rw [e]
      simp; exact h
  | cons a s ih =>
    intro r d p h
    have hm := mnp_le s
    have hf : fend (a :: s ++ r) d p = if a.f0 = 6 ∧ d = 1 then p else fend (s ++ r) (d + del a) (p + 1) := rfl
    have h1 : mnp (a :: s) = if del a + mnp s < 0 then del a + mnp s else 0 := rfl
    have h2 : tot (a :: s) = del a + tot s := rfl
    have hd : del a = if a.f0 = 4 ∨ a.f0 = 5 then 1 else if a.f0 = 6 then -1 else 0 := rfl
    have hdi := del_in a
    rw [hf, h1, h2]
    simp only [List.length_cons]
    by_cases c : a.f0 = 6 ∧ d = 1
    · rw [if_pos c]
      rw [if_neg (by omega), if_pos c.1] at hd
      rw [if_pos (by omega)]
      exact ⟨fun _ => ⟨by omega, by omega⟩, fun _ => by omega⟩
    · rw [if_neg c]
      have hde : 1 ≤ d + del a := by
        by_cases c6 : a.f0 = 6
        · omega
        · rw [hd]; split
          · omega
          · omega
      obtain ⟨i1, i2⟩ := ih r (d + del a) (p + 1) hde
      refine ⟨fun k => ?_, fun k => ?_⟩
      · have := i1 (by revert k; split <;> omega)
        push_cast
        omega
      · have := i2 (by revert k; split <;> omega)
        rw [this.1, show d + del a + tot s = d + (del a + tot s) by omega, show p + 1 + (s.length : Int) = p + ((s.length + 1 : Nat) : Int) by push_cast; omega]
        exact ⟨rfl, by omega⟩
theorem scan_app (s : List S31) : ∀ (r : List S31) (d e : Int), 0 ≤ d → d ≤ 3 → scan (s ++ r) d = some e → 0 ≤ d + mnp s ∧ d + tot s ≤ 3 ∧ scan r (d + tot s) = some e ∧ (∀ a ∈ s, okS a = true) := by
  induction s with
  | nil =>
    intro r d e h0 h1 h
    have e1 : tot ([] : List S31) = 0 := rfl
    have e2 : mnp ([] : List S31) = 0 := rfl
    rw [e1, e2, show d + 0 = d by omega]
    exact ⟨h0, h1, h, fun a ha => by simp at ha⟩
  | cons a s ih =>
    intro r d e h0 h1 h
    have hs : scan (a :: s ++ r) d = if okS a = true then (if 0 ≤ d + del a ∧ d + del a ≤ 3 then scan (s ++ r) (d + del a) else none) else none := rfl
    rw [hs] at h
    by_cases ok : okS a = true
    · rw [if_pos ok] at h
      by_cases c : 0 ≤ d + del a ∧ d + del a ≤ 3
      · rw [if_pos c] at h
        obtain ⟨i1, i2, i3, i4⟩ := ih r _ e c.1 c.2 h
        have h1 : mnp (a :: s) = if del a + mnp s < 0 then del a + mnp s else 0 := rfl
        have h2 : tot (a :: s) = del a + tot s := rfl
        rw [h1, h2]
        refine ⟨by split <;> omega, by omega, by rw [show d + (del a + tot s) = d + del a + tot s by omega]; exact i3, ?_⟩
        intro b hb
        rcases List.mem_cons.mp hb with rfl | hb
        · exact ok
        · exact i4 b hb
      · rw [if_neg c] at h; exact absurd h (by simp)
    · rw [if_neg ok] at h; exact absurd h (by simp)
theorem blk_scan {x : List S31} (h : blk x = true) : scan x 0 = some 0 ∧ x.length ≤ 24 := by
  unfold blk fin at h
  simpa using h
theorem blk_tot {x : List S31} (h : blk x = true) : tot x = 0 := by
  obtain ⟨h1, _⟩ := blk_scan h
  have h2 := scan_app x [] 0 0 (by omega) (by omega) (by simpa using h1)
  have h3 := h2.2.2.1
  simp only [scan, Option.some.injEq] at h3
  omega
theorem fend_find (u : List S31) : ∀ (d p : Int), 1 ≤ d → mnp u + d ≤ 0 → ∃ s c r, u = s ++ c :: r ∧ c.f0 = 6 ∧ d + tot s = 1 ∧ fend u d p = p + s.length := by
  induction u with
  | nil => intro d p h1 h2; have : mnp ([] : List S31) = 0 := rfl; omega
  | cons a t ih =>
    intro d p h1 h2
    have hm : mnp (a :: t) = if del a + mnp t < 0 then del a + mnp t else 0 := rfl
    have hf : fend (a :: t) d p = if a.f0 = 6 ∧ d = 1 then p else fend t (d + del a) (p + 1) := rfl
    by_cases c : a.f0 = 6 ∧ d = 1
    · refine ⟨[], a, t, rfl, c.1, ?_, ?_⟩
      · have : tot ([] : List S31) = 0 := rfl
        omega
      · rw [hf, if_pos c]; simp
    · have hd : del a = if a.f0 = 4 ∨ a.f0 = 5 then 1 else if a.f0 = 6 then -1 else 0 := rfl
      have hdi := del_in a
      have hde : 1 ≤ d + del a := by
        by_cases c6 : a.f0 = 6
        · omega
        · rw [hd]; split
          · omega
          · omega
      obtain ⟨s, x, r, e1, e2, e3, e4⟩ := ih (d + del a) (p + 1) hde (by rw [hm] at h2; revert h2; split <;> omega)
      refine ⟨a :: s, x, r, by rw [e1]; rfl, e2, ?_, ?_⟩
      · have : tot (a :: s) = del a + tot s := rfl
        omega
      · rw [hf, if_neg c, e4]; simp only [List.length_cons]; push_cast; omega
theorem if_end {x pre u : List S31} {a : S31} (b : blk x = true) (hx : x = pre ++ a :: u) (o : a.f0 = 4 ∨ a.f0 = 5) : ∃ s c r, u = s ++ c :: r ∧ c.f0 = 6 ∧ tot s = 0 ∧ fend (a :: u) 0 (pre.length : Int) = (pre.length : Int) + 1 + s.length ∧ fend u 1 ((pre.length : Int) + 1) = (pre.length : Int) + 1 + s.length := by
  have hs := blk_scan b
  have hsa := scan_app pre (a :: u) 0 0 (by omega) (by omega) (by rw [← hx]; exact hs.1)
  have hm := mnp_le pre
  have ht : tot x = tot pre + (del a + tot u) := by
    rw [hx, tot_app]
    have h4 : tot (a :: u) = del a + tot u := rfl
    rw [h4]
  have ht0 := blk_tot b
  have hdl : del a = 1 := by unfold del; rw [if_pos o]
  have hmu := mnp_le u
  obtain ⟨s, c, r, e1, e2, e3, e4⟩ := fend_find u 1 ((pre.length : Int) + 1) (by omega) (by omega)
  refine ⟨s, c, r, e1, e2, by omega, ?_, e4⟩
  have h0 : fend (a :: u) 0 (pre.length : Int) = if a.f0 = 6 ∧ (0 : Int) = 1 then (pre.length : Int) else fend u (0 + del a) ((pre.length : Int) + 1) := rfl
  rw [h0, if_neg (by omega), hdl]
  exact e4
theorem fend_pre (s1 : List S31) : ∀ (s2 t : List S31) (d p : Int), 1 ≤ d → fend (s1 ++ (s2 ++ t)) d p = p + (s1.length : Int) + (s2.length : Int) → 1 ≤ d + tot s1 := by
  induction s1 with
  | nil => intro s2 t d p h1 _; have : tot ([] : List S31) = 0 := rfl; omega
  | cons a s ih =>
    intro s2 t d p h1 h2
    have hf : fend ((a :: s) ++ (s2 ++ t)) d p = if a.f0 = 6 ∧ d = 1 then p else fend (s ++ (s2 ++ t)) (d + del a) (p + 1) := rfl
    have ht : tot (a :: s) = del a + tot s := rfl
    rw [hf] at h2
    simp only [List.length_cons] at h2
    by_cases c : a.f0 = 6 ∧ d = 1
    · rw [if_pos c] at h2; omega
    · rw [if_neg c] at h2
      have hd : del a = if a.f0 = 4 ∨ a.f0 = 5 then 1 else if a.f0 = 6 then -1 else 0 := rfl
      have hde : 1 ≤ d + del a := by
        by_cases c6 : a.f0 = 6
        · have := del_in a; omega
        · rw [hd]; split
          · omega
          · omega
      have := ih s2 t (d + del a) (p + 1) hde (by omega)
      omega
/-- A list in which each opening has its end. -/
inductive Bal : List S31 → Prop
  | nil : Bal []
  | plain (a : S31) (t : List S31) (h1 : ¬ (a.f0 = 4 ∨ a.f0 = 5)) (h2 : a.f0 ≠ 6) (ht : Bal t) : Bal (a :: t)
  | node (a : S31) (s : List S31) (c : S31) (r : List S31) (h1 : a.f0 = 4 ∨ a.f0 = 5) (h2 : c.f0 = 6) (hs : Bal s) (hr : Bal r) : Bal (a :: (s ++ c :: r))
theorem fend_bal {s : List S31} (h : Bal s) : ∀ (t : List S31) (d p : Int), 1 ≤ d → fend (s ++ t) d p = fend t d (p + s.length) := by
  induction h with
  | nil => intro t d p _; simp
  | plain a u h1 h2 _ ih =>
    intro t d p hd
    have hdel : del a = 0 := by unfold del; rw [if_neg h1, if_neg h2]
    have hf : fend ((a :: u) ++ t) d p = if a.f0 = 6 ∧ d = 1 then p else fend (u ++ t) (d + del a) (p + 1) := rfl
    rw [hf, if_neg (fun e => h2 e.1), hdel, Int.add_zero, ih t d (p + 1) hd, List.length_cons]
    congr 1; push_cast; omega
  | node a s c r h1 h2 _ _ ihs ihr =>
    intro t d p hd
    have hdel : del a = 1 := by unfold del; rw [if_pos h1]
    have hdelc : del c = -1 := by unfold del; rw [if_neg (by omega), if_pos h2]
    have hf : fend ((a :: (s ++ c :: r)) ++ t) d p = if a.f0 = 6 ∧ d = 1 then p else fend ((s ++ c :: r) ++ t) (d + del a) (p + 1) := rfl
    have hg : ∀ e q : Int, fend (c :: (r ++ t)) e q = if c.f0 = 6 ∧ e = 1 then q else fend (r ++ t) (e + del c) (q + 1) := fun _ _ => rfl
    rw [hf, if_neg (by omega), hdel, List.append_assoc, ihs _ _ _ (by omega), List.cons_append, hg, if_neg (by omega), hdelc, ihr t _ _ (by omega)]
    simp only [List.length_cons, List.length_append]
    rw [show d + 1 + -1 = d by omega]
    congr 1; push_cast; omega
/-- Where an opening's end is. -/
theorem fend_node {a c : S31} {s : List S31} (h1 : a.f0 = 4 ∨ a.f0 = 5) (h2 : c.f0 = 6) (hs : Bal s) (t : List S31) (p : Int) : fend (a :: (s ++ c :: t)) 0 p = p + 1 + s.length := by
  have hdel : del a = 1 := by unfold del; rw [if_pos h1]
  have hf : fend (a :: (s ++ c :: t)) 0 p = if a.f0 = 6 ∧ (0 : Int) = 1 then p else fend (s ++ c :: t) (0 + del a) (p + 1) := rfl
  have hg : ∀ e q : Int, fend (c :: t) e q = if c.f0 = 6 ∧ e = 1 then q else fend t (e + del c) (q + 1) := fun _ _ => rfl
  rw [hf, if_neg (by omega), hdel, fend_bal hs _ _ _ (by omega), hg, if_pos ⟨h2, by omega⟩]
theorem mnp_app (s t : List S31) : mnp (s ++ t) ≤ tot s + mnp t := by
  induction s with
  | nil => have : tot ([] : List S31) = 0 := rfl; simp only [List.nil_append]; omega
  | cons a s ih =>
    have h1 : tot (a :: s) = del a + tot s := rfl
    have h2 : mnp (a :: s ++ t) = if del a + mnp (s ++ t) < 0 then del a + mnp (s ++ t) else 0 := rfl
    rw [h2]; split <;> omega
theorem mnp_pre (s : List S31) : ∀ (h : ∀ s1 s2, s = s1 ++ s2 → 0 ≤ tot s1), 0 ≤ mnp s := by
  suffices hh : ∀ (s : List S31) (d : Int), (∀ s1 s2, s = s1 ++ s2 → 0 ≤ d + tot s1) → 0 ≤ d + mnp s by
    intro h
    have := hh s 0 (fun s1 s2 e => by have := h s1 s2 e; omega)
    omega
  intro s
  induction s with
  | nil => intro d h; have := h [] [] rfl; have h1 : tot ([] : List S31) = 0 := rfl; have h2 : mnp ([] : List S31) = 0 := rfl; omega
  | cons a s ih =>
    intro d h
    have h2 : mnp (a :: s) = if del a + mnp s < 0 then del a + mnp s else 0 := rfl
    have h0 := h [] (a :: s) rfl
    have h1 : tot ([] : List S31) = 0 := rfl
    have := ih (d + del a) (fun s1 s2 e => by
      have := h (a :: s1) s2 (by rw [e]; rfl)
      have h4 : tot (a :: s1) = del a + tot s1 := rfl
      omega)
    rw [h2]; split <;> omega
theorem bal_of (n : Nat) : ∀ (u : List S31), u.length ≤ n → 0 ≤ mnp u → tot u = 0 → Bal u := by
  induction n with
  | zero => intro u h _ _; cases u with
    | nil => exact Bal.nil
    | cons a t => simp at h
  | succ n ih =>
    intro u h hm ht
    cases u with
    | nil => exact Bal.nil
    | cons a t =>
      simp only [List.length_cons] at h
      have h1 : tot (a :: t) = del a + tot t := rfl
      have h2 : mnp (a :: t) = if del a + mnp t < 0 then del a + mnp t else 0 := rfl
      have hmt := mnp_le t
      have h3 : 0 ≤ del a + mnp t := by rw [h2] at hm; revert hm; split <;> omega
      by_cases o : a.f0 = 4 ∨ a.f0 = 5
      · have hd : del a = 1 := by unfold del; rw [if_pos o]
        obtain ⟨s, c, r, e1, e2, e3, e4⟩ := fend_find t 1 0 (by omega) (by omega)
        have hdc : del c = -1 := by unfold del; rw [if_neg (by omega), if_pos e2]
        have hls : t.length = s.length + (r.length + 1) := by rw [e1]; simp
        have hpre : ∀ s1 s2, s = s1 ++ s2 → 0 ≤ tot s1 := fun s1 s2 e => by
          have := fend_pre s1 s2 (c :: r) 1 0 (by omega) (by
            have : t = s1 ++ (s2 ++ c :: r) := by rw [e1, e]; simp
            rw [← this, e4, e]; simp only [List.length_append]; push_cast; omega)
          omega
        have htr : tot t = tot s + (del c + tot r) := by
          rw [e1, tot_app]
          have h4 : tot (c :: r) = del c + tot r := rfl
          rw [h4]
        have hmr : 0 ≤ mnp r := by
          have := mnp_app (s ++ [c]) r
          have h5 : tot (s ++ [c]) = tot s + del c := by
            rw [tot_app]
            have h6 : tot [c] = del c + tot ([] : List S31) := rfl
            have h7 : tot ([] : List S31) = 0 := rfl
            omega
          have h6 : (s ++ [c]) ++ r = t := by rw [e1]; simp
          rw [h6] at this
          omega
        rw [e1]
        exact Bal.node a s c r o e2 (ih s (by omega) (mnp_pre s hpre) (by omega)) (ih r (by omega) hmr (by omega))
      · by_cases c6 : a.f0 = 6
        · have hd : del a = -1 := by unfold del; rw [if_neg o, if_pos c6]
          omega
        · have hd : del a = 0 := by unfold del; rw [if_neg o, if_neg c6]
          exact Bal.plain a t o c6 (ih t (by omega) (by omega) (by omega))
theorem blk_bal {x : List S31} (b : blk x = true) : Bal x := by
  obtain ⟨h1, _⟩ := blk_scan b
  have := scan_app x [] 0 0 (by omega) (by omega) (by simpa using h1)
  exact bal_of x.length x (Nat.le_refl _) (by omega) (blk_tot b)
def cnv (s : S72) : S31 := ⟨s.f0, s.f1, s.f2, ⟨s.f3.f0, s.f3.f1, s.f3.f2⟩⟩
theorem rdc (xs : List S72) (i : Int) (h0 : 0 ≤ i) (h1 : i < (xs.length : Int)) : (xs.map cnv)[i.toNat]? = some (cnv (rd_T72 xs i)) := by
  have h : i.toNat < xs.length := by omega
  unfold rd_T72
  rw [List.getElem?_map, List.getD_eq_getElem?_getD, List.getElem?_eq_getElem h]
  rfl
theorem toStmt_loop (l : List S72) (sz : (l.length : Int) ≤ 140737488351232) (d : Nat) : ∀ (k : Nat) (x : List S31) (i : Int), 0 ≤ i → i ≤ l.length → (l.length : Int) - i = d → d < k → x.length = l.length → (∀ j : Nat, (j : Int) < i → x[j]? = (l.map cnv)[j]?) →
    laws_toStmtS.l0 k l x i = some (l.map cnv) := by
  induction d with
  | zero =>
    intro k x i h0 h1 hd hk hl hx
    obtain ⟨k, rfl⟩ : ∃ m, k = m + 1 := ⟨k - 1, by omega⟩
    simp only [laws_toStmtS.l0]
    rw [if_neg (by omega)]
    congr 1
    apply List.ext_getElem?
    intro j
    by_cases hj : (j : Int) < i
    · exact hx j hj
    · rw [List.getElem?_eq_none (by omega), List.getElem?_eq_none (by simp; omega)]
  | succ d ih =>
    intro k x i h0 h1 hd hk hl hx
    obtain ⟨k, rfl⟩ : ∃ m, k = m + 1 := ⟨k - 1, by omega⟩
    simp only [laws_toStmtS.l0, laws_toStmt.f, laws_toExpr.f, Option.bind_some]
    rw [if_pos (by omega), if_pos h0, if_pos (by omega), w64 (n := i + 1) (by omega) (by omega)]
    refine ih k _ (i + 1) (by omega) (by omega) (by omega) (by omega) (by simp [hl]) ?_
    intro j hj
    by_cases e : (j : Int) = i
    · have e2 : j = i.toNat := by omega
      subst e2
      rw [rdc l i h0 (by omega), List.getElem?_set_self (by omega)]
      rfl
    · rw [List.getElem?_set_ne (by omega)]
      exact hx j (by omega)
theorem toStmt_tells (l : List S72) (h : (l.length : Int) ≤ 1048576) : ∀ k, l.length < k → laws_toStmtS.f k l = some (l.map cnv) := by
  intro k hk
  unfold laws_toStmtS.f
  rw [if_pos (by omega), if_pos (by omega)]
  exact toStmt_loop l (by omega) l.length k _ 0 (by omega) (by omega) (by omega) hk (by simp) (fun j hj => by omega)
theorem eqStmt_loop (l : List S31) (sz : (l.length : Int) ≤ 140737488351232) (d : Nat) : ∀ (k : Nat) (i : Int), 0 ≤ i → i ≤ l.length → (l.length : Int) - i = d → d < k → laws_eqStmtS.l0 k l l i = some true := by
  induction d with
  | zero =>
    intro k i h0 h1 hd hk
    obtain ⟨k, rfl⟩ : ∃ m, k = m + 1 := ⟨k - 1, by omega⟩
    simp only [laws_eqStmtS.l0]
    rw [if_neg (by omega)]
  | succ d ih =>
    intro k i h0 h1 hd hk
    obtain ⟨k, rfl⟩ : ∃ m, k = m + 1 := ⟨k - 1, by omega⟩
    simp only [laws_eqStmtS.l0, laws_eqStmt.f, laws_eqExpr.f, if_true, Option.bind_some]
    rw [if_pos (by omega), if_pos h0, if_pos (by omega), w64 (n := i + 1) (by omega) (by omega)]
    exact ih k (i + 1) (by omega) (by omega) (by omega) (by omega)
theorem eqStmt_self (l : List S31) (sz : (l.length : Int) ≤ 140737488351232) : ∀ k, l.length < k → laws_eqStmtS.f k l l = some true := by
  intro k hk
  unfold laws_eqStmtS.f
  rw [if_pos rfl]
  exact eqStmt_loop l sz l.length k 0 (by omega) (by omega) (by omega) hk
theorem sz_tells (l : List S72) (hl : l.length ≤ maxLen) : ∃ t, laws_szStmtS.f l 1048576 = some t ∧ (t < 0 ∨ (l.length : Int) ≤ 1048576) := by
  have hm : (maxLen : Int) ≤ 9223372036854775807 := by decide
  unfold laws_szStmtS.f
  rw [w64 (by omega) (by omega)]
  by_cases c : 1048576 - (l.length : Int) < 0
  · rw [if_pos c]; exact ⟨-1, rfl, Or.inl (by omega)⟩
  · rw [if_neg c]; exact ⟨_, rfl, Or.inr (by omega)⟩
theorem wadd (a b : Int) : wrap64 (wrap64 a + b) = wrap64 (a + b) := by unfold wrap64; omega
theorem wid (a : Int) : wrap64 (wrap64 a) = wrap64 a := by unfold wrap64; omega
theorem wmul (a t n : Int) : wrap64 (a + wrap64 (t * wrap64 n)) = wrap64 (a + t * n) := by
  obtain ⟨q, hq⟩ : ∃ q, wrap64 n = n + 18446744073709551616 * q := by
    unfold wrap64
    exact ⟨-((n + 9223372036854775808) / 18446744073709551616), by omega⟩
  have h1 : t * wrap64 n = t * n + 18446744073709551616 * (t * q) := by
    rw [hq, Int.mul_add, Int.mul_left_comm]
  rw [h1]
  generalize t * n = X
  generalize t * q = Y
  unfold wrap64
  omega
/-- How often an opening's statements are run. -/
def tms (a : S31) : Int := if a.f0 = 4 then 1 else a.f2
theorem tms_in {a : S31} (ok : okS a = true) (o : a.f0 = 4 ∨ a.f0 = 5) : 1 ≤ tms a ∧ tms a ≤ 5 ∧ mx 1 a.f2 = tms a := by
  unfold okS sok at ok
  unfold tms
  rcases o with o | o
  · rw [if_neg (by omega), if_neg (by omega), if_neg (by omega), if_pos o] at ok
    simp only [Bool.and_eq_true, decide_eq_true_eq] at ok
    rw [if_pos o]
    refine ⟨by omega, by omega, ?_⟩
    rw [ok.2.1]
    rfl
  · rw [if_neg (by omega), if_neg (by omega), if_neg (by omega), if_neg (by omega), if_pos o] at ok
    simp only [Bool.and_eq_true, decide_eq_true_eq] at ok
    rw [if_neg (by omega)]
    refine ⟨by omega, by omega, ?_⟩
    unfold mx
    first | omega | (split <;> omega)
def PI (u : List S31) (n : Int) (C : Nat) : Prop := ∀ (pre post : List S31) (acc r : Int) (K : Nat), (pre ++ (u ++ post)).length ≤ 24 → wrap64 acc = acc →
  (∀ k, K ≤ k → impl_walk.l0 k (pre ++ (u ++ post)) ((pre.length : Int) + u.length) (wrap64 (acc + n)) = some r) → ∀ k, K + C ≤ k → impl_walk.l0 k (pre ++ (u ++ post)) (pre.length : Int) acc = some r
def PS (u : List S31) (n : Int) (C : Nat) : Prop := ∀ (pre post : List S31) (b acc r : Int) (K : Nat), (pre ++ (u ++ post)).length ≤ 24 → wrap64 acc = acc → (pre.length : Int) + u.length ≤ b → b ≤ (pre ++ (u ++ post)).length →
  (∀ k, K ≤ k → spec_l05Longest.l0 k (pre ++ (u ++ post)) b (wrap64 (acc + n)) ((pre.length : Int) + u.length) = some r) → ∀ k, K + C ≤ k → spec_l05Longest.l0 k (pre ++ (u ++ post)) b acc (pre.length : Int) = some r
theorem bit_true : impl_bit.f true = some 1 := by simp [impl_bit.f]
theorem bit_false : impl_bit.f false = some 0 := by simp [impl_bit.f]
theorem tells {u : List S31} (h : Bal u) : (∀ a ∈ u, okS a = true) → ∃ n C, PI u n C ∧ PS u n C := by
  induction h with
  | nil =>
    intro _
    refine ⟨0, 0, fun pre post acc r K hl hw h k hk => ?_, fun pre post b acc r K hl hw h1 h2 h k hk => ?_⟩
    · have := h k (by omega)
      rw [show acc + 0 = acc by omega, hw] at this
      simpa using this
    · have := h k (by omega)
      rw [show acc + 0 = acc by omega, hw] at this
      simpa using this
  | plain a t h1 h2 _ ih =>
    intro ok
    obtain ⟨n, C, hi, hs⟩ := ih (fun z hz => ok z (List.mem_cons_of_mem _ hz))
    refine ⟨1 + n, C + 3, fun pre post acc r K hl hw h k hk => ?_, fun pre post b acc r K hl hw g1 g2 h k hk => ?_⟩
    · obtain ⟨k, rfl⟩ : ∃ m, k = m + 1 := ⟨k - 1, by omega⟩
      have hx : pre ++ ((a :: t) ++ post) = (pre ++ [a]) ++ (t ++ post) := by simp
      have hr : rd_T31 (pre ++ ((a :: t) ++ post)) (pre.length : Int) = a := rd_app pre a (t ++ post)
      have hlen : (pre ++ ((a :: t) ++ post)).length = pre.length + (t.length + 1 + post.length) := by simp; omega
      have hn : ((pre.length : Int) + 1) = (((pre ++ [a]).length : Nat) : Int) := by simp
      simp only [impl_walk.l0]
      rw [if_pos (by omega), if_pos (by omega), hr, if_neg h2]
      unfold impl_LongestRun_1.f
      rw [opening_eq]
      simp only [Option.bind_some]
      rw [decide_eq_false h1, Bool.not_false, bit_true]
      simp only [Option.bind_some, Bool.false_eq_true, if_false]
      rw [w64 (by omega) (by omega), hn, hx]
      refine hi (pre ++ [a]) post (wrap64 (acc + 1)) r K (by rw [← hx]; exact hl) (wid _) (fun k' hk' => ?_) k (by omega)
      have := h k' hk'
      rw [hx] at this
      rw [wadd, show acc + 1 + n = acc + (1 + n) by omega, ← hn, show (pre.length : Int) + 1 + (t.length : Int) = (pre.length : Int) + ((a :: t).length : Int) by simp; omega]
      exact this
    · obtain ⟨k, rfl⟩ : ∃ m, k = m + 2 := ⟨k - 2, by omega⟩
      have hx : pre ++ ((a :: t) ++ post) = (pre ++ [a]) ++ (t ++ post) := by simp
      have hr : rd_T31 (pre ++ ((a :: t) ++ post)) (pre.length : Int) = a := rd_app pre a (t ++ post)
      have hlen : (pre ++ ((a :: t) ++ post)).length = pre.length + (t.length + 1 + post.length) := by simp; omega
      have hn : ((pre.length : Int) + 1) = (((pre ++ [a]).length : Nat) : Int) := by simp
      simp only [List.length_cons] at g1
      simp only [spec_l05Longest.l0]
      rw [if_pos (by omega), if_pos (by omega), if_pos (by omega), hr, if_neg (by omega), show (a.f0 == 5) = false by simp; omega]
      simp only [spec_l05Longest.j1, Bool.false_eq_true, if_false]
      rw [w64 (n := (pre.length : Int) + 1) (by omega) (by omega), hn, hx]
      refine hs (pre ++ [a]) post b (wrap64 (acc + 1)) r K (by rw [← hx]; exact hl) (wid _) (by simp; omega) (by rw [← hx]; exact g2) (fun k' hk' => ?_) k (by omega)
      have := h k' hk'
      rw [hx] at this
      rw [wadd, show acc + 1 + n = acc + (1 + n) by omega, ← hn, show (pre.length : Int) + 1 + (t.length : Int) = (pre.length : Int) + ((a :: t).length : Int) by simp; omega]
      exact this
  | node a s c r0 h1 h2 hbs _ ihs ihr =>
    intro ok
    have oka := ok a (by simp)
    obtain ⟨n, C, hi, hs⟩ := ihs (fun z hz => ok z (by simp [hz]))
    obtain ⟨n2, C2, hi2, hs2⟩ := ihr (fun z hz => ok z (by simp [hz]))
    obtain ⟨t1, t5, tm⟩ := tms_in oka h1
    refine ⟨tms a * n + n2, 8 * C + C2 + 100, fun pre post acc r K hl hw h k hk => ?_, fun pre post b acc r K hl hw g1 g2 h k hk => ?_⟩
    · have hlen : (pre ++ ((a :: (s ++ c :: r0)) ++ post)).length = pre.length + (s.length + (r0.length + 1) + 1 + post.length) := by simp; omega
      have hr : rd_T31 (pre ++ ((a :: (s ++ c :: r0)) ++ post)) (pre.length : Int) = a := rd_app pre a ((s ++ c :: r0) ++ post)
      have hx2 : pre ++ ((a :: (s ++ c :: r0)) ++ post) = (pre ++ a :: (s ++ [c])) ++ (r0 ++ post) := by simp
      have hn2 : (((pre ++ a :: (s ++ [c])).length : Nat) : Int) = (pre.length : Int) + 1 + s.length + 1 := by simp; omega
      have hcut : ((pre ++ ((a :: (s ++ c :: r0)) ++ post)).take ((pre.length : Int) + 1 + (s.length : Int)).toNat).drop ((pre.length : Int) + 1).toNat = s := by
        have e1 : pre ++ ((a :: (s ++ c :: r0)) ++ post) = (pre ++ [a]) ++ (s ++ (c :: (r0 ++ post))) := by simp
        have e2 : ((pre.length : Int) + 1 + (s.length : Int)).toNat = (pre ++ [a]).length + s.length := by simp; omega
        have e3 : ((pre.length : Int) + 1).toNat = (pre ++ [a]).length := by rw [List.length_append, List.length_singleton]; omega
        rw [e1, e2, e3, List.take_length_add_append, List.drop_left' rfl]
        exact List.take_left' rfl
      have hE : ∀ k, 60 ≤ k → impl_endOf.f k (pre ++ ((a :: (s ++ c :: r0)) ++ post)) (pre.length : Int) = some ((pre.length : Int) + 1 + s.length) := by
        intro k hk
        unfold impl_endOf.f
        have e1 : (a :: (s ++ c :: r0)) ++ post = a :: (s ++ c :: (r0 ++ post)) := by simp
        rw [iend ((a :: (s ++ c :: r0)) ++ post) k pre _ 0 rfl (by omega) (by simp only [List.length_append, List.length_cons] at hl ⊢; omega) (Or.inr ⟨by omega, a, _, rfl, h1⟩) (by omega), e1, fend_node h1 h2 hbs]
      have hsub : ∀ (z : Int) (k : Nat), wrap64 z = z → C + 2 ≤ k → impl_walk.f k s z = some (wrap64 (z + n)) := by
        intro z k hz hk
        obtain ⟨k, rfl⟩ : ∃ m, k = m + 1 := ⟨k - 1, by omega⟩
        simp only [impl_walk.f]
        have := hi [] [] z (wrap64 (z + n)) 1 (by simp; omega) hz (fun k' hk' => by
          obtain ⟨k', rfl⟩ : ∃ m, k' = m + 1 := ⟨k' - 1, by omega⟩
          simp only [impl_walk.l0]
          rw [if_neg (by simp)]) k (by omega)
        simpa using this
      have hloop : ∀ (m : Nat) (z r' : Int) (K' : Nat), wrap64 z = z → (m : Int) ≤ tms a → (∀ k, K' ≤ k → impl_walk.l0 k (pre ++ ((a :: (s ++ c :: r0)) ++ post)) ((pre.length : Int) + 1 + s.length + 1) (wrap64 (z + m * n)) = some r') →
          ∀ k, K' + m + C + 3 ≤ k → impl_walk.l1 k (pre ++ ((a :: (s ++ c :: r0)) ++ post)) (pre.length : Int) ((pre.length : Int) + 1 + s.length) (tms a) (tms a - m) z = some r' := by
        intro m
        induction m with
        | zero =>
          intro z r' K' hz hm h' k hk
          obtain ⟨k, rfl⟩ : ∃ j, k = j + 1 := ⟨k - 1, by omega⟩
          simp only [impl_walk.l1]
          rw [if_neg (by omega), w64 (by omega) (by omega)]
          have := h' k (by omega)
          rw [show z + ((0 : Nat) : Int) * n = z by simp, hz] at this
          exact this
        | succ m ihm =>
          intro z r' K' hz hm h' k hk
          obtain ⟨k, rfl⟩ : ∃ j, k = j + 1 := ⟨k - 1, by omega⟩
          simp only [impl_walk.l1]
          rw [w64 (n := (pre.length : Int) + 1) (by omega) (by omega), if_pos (by omega), if_pos (by omega), if_pos (by omega), if_pos (by omega), hcut, hsub z k hz (by omega)]
          simp only [Option.bind_some]
          rw [w64 (by omega) (by omega), show tms a - ((m + 1 : Nat) : Int) + 1 = tms a - (m : Int) by omega]
          refine ihm (wrap64 (z + n)) r' K' (wid _) (by omega) (fun k' hk' => ?_) k (by omega)
          have := h' k' hk'
          rw [wadd, show z + n + (m : Int) * n = z + ((m + 1 : Nat) : Int) * n by push_cast; rw [Int.add_mul]; omega]
          exact this
      obtain ⟨k, rfl⟩ : ∃ m, k = m + 2 := ⟨k - 2, by omega⟩
      have hacc : wrap64 (acc + 0) = acc := by rw [show acc + 0 = acc by omega, hw]
      have hfin : impl_walk.j1 (k + 1) (pre ++ ((a :: (s ++ c :: r0)) ++ post)) (pre.length : Int) ((pre.length : Int) + 1 + s.length) (tms a) acc = some r := by
        simp only [impl_walk.j1]
        have hm : ((tms a).toNat : Int) = tms a := by omega
        have := hloop (tms a).toNat acc r (K + C2) hw (by omega) (fun k' hk' => by
          rw [hm, hx2, ← hn2]
          refine hi2 (pre ++ a :: (s ++ [c])) post (wrap64 (acc + tms a * n)) r K (by rw [← hx2]; exact hl) (wid _) (fun k2 hk2 => ?_) k' hk'
          have := h k2 hk2
          rw [hx2] at this
          rw [wadd, Int.add_assoc, show (((pre ++ a :: (s ++ [c])).length : Nat) : Int) + (r0.length : Int) = (pre.length : Int) + ((a :: (s ++ c :: r0)).length : Int) by simp; omega]
          exact this) k (by omega)
        rw [hm, Int.sub_self] at this
        exact this
      simp only [impl_walk.l0]
      rw [if_pos (by omega), if_pos (by omega), hr, if_neg (by omega)]
      unfold impl_LongestRun_1.f
      rw [opening_eq]
      simp only [Option.bind_some]
      rw [decide_eq_true h1, Bool.not_true, bit_false]
      simp only [Option.bind_some, if_true]
      rw [hE (k + 1) (by omega)]
      simp only [Option.bind_some]
      rw [hacc]
      by_cases c4 : a.f0 = 4
      · rw [if_pos c4, bit_true]
        simp only [Option.bind_some]
        have : tms a = 1 := by unfold tms; rw [if_pos c4]
        rw [this] at hfin
        exact hfin
      · rw [if_neg c4]
        have : tms a = a.f2 := by unfold tms; rw [if_neg c4]
        rw [this] at hfin
        exact hfin
    · have hlen : (pre ++ ((a :: (s ++ c :: r0)) ++ post)).length = pre.length + (s.length + (r0.length + 1) + 1 + post.length) := by simp; omega
      have hr : rd_T31 (pre ++ ((a :: (s ++ c :: r0)) ++ post)) (pre.length : Int) = a := rd_app pre a ((s ++ c :: r0) ++ post)
      have hx1 : pre ++ ((a :: (s ++ c :: r0)) ++ post) = (pre ++ [a]) ++ (s ++ (c :: (r0 ++ post))) := by simp
      have hx2 : pre ++ ((a :: (s ++ c :: r0)) ++ post) = (pre ++ a :: (s ++ [c])) ++ (r0 ++ post) := by simp
      have hn1 : (((pre ++ [a]).length : Nat) : Int) = (pre.length : Int) + 1 := by simp
      have hn2 : (((pre ++ a :: (s ++ [c])).length : Nat) : Int) = (pre.length : Int) + 1 + s.length + 1 := by simp; omega
      have hl3 : (((a :: (s ++ c :: r0)).length : Nat) : Int) = 1 + s.length + 1 + r0.length := by simp; omega
      have hE : ∀ k, 60 ≤ k → spec_l05End.f k (pre ++ ((a :: (s ++ c :: r0)) ++ post)) (pre.length : Int) = some ((pre.length : Int) + 1 + s.length) := by
        intro k hk
        unfold spec_l05End.f
        have e1 : (a :: (s ++ c :: r0)) ++ post = a :: (s ++ c :: (r0 ++ post)) := by simp
        rw [send ((a :: (s ++ c :: r0)) ++ post) k pre _ 0 rfl (by omega) (by simp only [List.length_append, List.length_cons] at hl ⊢; omega) (Or.inr ⟨by omega, a, _, rfl, h1⟩) (by omega), e1, fend_node h1 h2 hbs]
      have hsub : ∀ k, C + 2 ≤ k → spec_l05Longest.f k (pre ++ ((a :: (s ++ c :: r0)) ++ post)) ((pre.length : Int) + 1) ((pre.length : Int) + 1 + s.length) = some (wrap64 n) := by
        intro k hk
        obtain ⟨k, rfl⟩ : ∃ m, k = m + 1 := ⟨k - 1, by omega⟩
        simp only [spec_l05Longest.f]
        rw [hx1, ← hn1]
        exact hs (pre ++ [a]) (c :: (r0 ++ post)) _ 0 (wrap64 n) 1 (by rw [← hx1]; exact hl) (w64 (by omega) (by omega)) (by omega) (by rw [← hx1, hlen, hn1]; push_cast; omega) (fun k' hk' => by
          obtain ⟨k', rfl⟩ : ∃ m, k' = m + 1 := ⟨k' - 1, by omega⟩
          simp only [spec_l05Longest.l0]
          rw [if_neg (by omega), Int.zero_add]) k (by omega)
      obtain ⟨k, rfl⟩ : ∃ m, k = m + 2 := ⟨k - 2, by omega⟩
      have hfin : spec_l05Longest.j1 (k + 1) (pre ++ ((a :: (s ++ c :: r0)) ++ post)) b acc (pre.length : Int) true = some r := by
        simp only [spec_l05Longest.j1, if_true]
        rw [hE k (by omega)]
        simp only [Option.bind_some]
        rw [if_pos (by omega), if_pos (by omega), w64 (n := (pre.length : Int) + 1) (by omega) (by omega), hsub k (by omega)]
        simp only [Option.bind_some]
        rw [hr, tm, wmul, w64 (n := (pre.length : Int) + 1 + s.length + 1) (by omega) (by omega), hx2, ← hn2]
        refine hs2 (pre ++ a :: (s ++ [c])) post b (wrap64 (acc + tms a * n)) r K (by rw [← hx2]; exact hl) (wid _) (by omega) (by rw [← hx2]; exact g2) (fun k2 hk2 => ?_) k (by omega)
        have := h k2 hk2
        rw [hx2] at this
        rw [wadd, Int.add_assoc, show (((pre ++ a :: (s ++ [c])).length : Nat) : Int) + (r0.length : Int) = (pre.length : Int) + ((a :: (s ++ c :: r0)).length : Int) by omega]
        exact this
      simp only [spec_l05Longest.l0]
      rw [if_pos (by omega), if_pos (by omega), if_pos (by omega), hr]
      by_cases c4 : a.f0 = 4
      · rw [if_pos c4, show (a.f0 == 4) = true by simp [c4]]
        exact hfin
      · rw [if_neg c4, show (a.f0 == 5) = true by simp; omega]
        exact hfin
theorem longest (x : List S31) (hz : x.length ≤ 1048576) : ∃ n K, ∀ k, K ≤ k → impl_LongestRun.f k x = some n ∧ spec_LongestRun.f k x = some n := by
  by_cases b : blk x = true
  · have hs := blk_scan b
    obtain ⟨n, C, hi, hp⟩ := tells (blk_bal b) ((scan_app x [] 0 0 (by omega) (by omega) (by simpa using hs.1)).2.2.2)
    refine ⟨wrap64 n, C + 100, fun k hk => ⟨?_, ?_⟩⟩
    · unfold impl_LongestRun.f
      rw [iblock x (by omega) k (by omega)]
      simp only [Option.bind_some]
      rw [if_pos b]
      obtain ⟨k, rfl⟩ : ∃ m, k = m + 1 := ⟨k - 1, by omega⟩
      simp only [impl_walk.f]
      have := hi [] [] 0 (wrap64 n) 1 (by simp; omega) (w64 (by omega) (by omega)) (fun k' hk' => by
        obtain ⟨k', rfl⟩ : ∃ m, k' = m + 1 := ⟨k' - 1, by omega⟩
        simp only [impl_walk.l0]
        rw [if_neg (by simp), Int.zero_add]) k (by omega)
      simpa using this
    · unfold spec_LongestRun.f
      rw [sblock x (by omega) k (by omega)]
      simp only [Option.bind_some]
      rw [if_pos b]
      obtain ⟨k, rfl⟩ : ∃ m, k = m + 1 := ⟨k - 1, by omega⟩
      simp only [spec_l05Longest.f]
      have := hp [] [] (x.length : Int) 0 (wrap64 n) 1 (by simp; omega) (w64 (by omega) (by omega)) (by simp) (by simp) (fun k' hk' => by
        obtain ⟨k', rfl⟩ : ∃ m, k' = m + 1 := ⟨k' - 1, by omega⟩
        simp only [spec_l05Longest.l0]
        rw [if_neg (by simp), Int.zero_add]) k (by omega)
      have h2 : spec_l05Longest.l0 k x (x.length : Int) 0 0 = some (wrap64 n) := by simpa using this
      rw [h2]
      rfl
  · refine ⟨-1, 2 * x.length + 100, fun k hk => ⟨?_, ?_⟩⟩
    · unfold impl_LongestRun.f
      rw [iblock x (by omega) k (by omega)]
      simp only [Option.bind_some]
      rw [if_neg b]
    · unfold spec_LongestRun.f
      rw [sblock x (by omega) k (by omega)]
      simp only [Option.bind_some]
      rw [if_neg b]
theorem FnExactLongestRun : laws_FnExactLongestRun.Pure := by
  intro l hl _
  obtain ⟨t, et, ht⟩ := sz_tells l hl
  by_cases c : t < 0
  · refine ⟨1, ?_⟩
    unfold laws_FnExactLongestRun.f
    rw [et]
    simp only [Option.bind_some]
    rw [if_pos c]
  · have sz : (l.length : Int) ≤ 1048576 := by omega
    obtain ⟨n, K, hk⟩ := longest (l.map cnv) (by rw [List.length_map]; omega)
    refine ⟨K + 2 * l.length + 20, ?_⟩
    unfold laws_FnExactLongestRun.f
    rw [et]
    simp only [Option.bind_some]
    rw [if_neg c, toStmt_tells l sz _ (by omega)]
    simp only [Option.bind_some]
    obtain ⟨e1, e2⟩ := hk (K + 2 * l.length + 20) (by omega)
    rw [e1, e2]
    simp only [Option.bind_some, if_true]
    rw [eqStmt_self _ (by rw [List.length_map]; omega) _ (by rw [List.length_map]; omega)]
    simp

end Go.Proofs.Ytkjdhmffknahgaa.Pure
