/- The program's MustWrite and the reference's return the same for all statements, each time in memory of its own, and leave the statements as they were; no condition. -/
import Derived.Test.YtlhcofkandeepaaPFnExactMustWritex10
import Derived.Lib.SlicesCompact
namespace Go.Proofs.Ytlhcofkandeepaa.Pure
open Go.RowKit Go.Proofs.Ytlhcofkandeepaa.PFnExactMustWrite Go.Proofs.YtlhcofkandeepaaW.PrintWords Go.Proofs.YtlhcofkandeepaaW.PrintLast
set_option linter.unusedVariables false
set_option linter.unusedSimpArgs false

theorem w64 {n : Int} (h1 : -9223372036854775808 ≤ n) (h2 : n ≤ 9223372036854775807) : wrap64 n = n := by unfold wrap64; omega
theorem w64_in (n : Int) : -9223372036854775808 ≤ wrap64 n ∧ wrap64 n ≤ 9223372036854775807 := by unfold wrap64; omega
theorem wf64 {n : Int} (h : (Lit.int .i64 n).wf = true) : -9223372036854775808 ≤ n ∧ n ≤ 9223372036854775807 := by
  simp only [Lit.wf, IntKind.min, IntKind.max, IntKind.signed, IntKind.bits, Bool.and_eq_true, decide_eq_true_eq, if_true] at h
  omega
theorem wfu8 {n : Int} (h : (Lit.int .u8 n).wf = true) : 0 ≤ n ∧ n ≤ 255 := by
  simp [Lit.wf, IntKind.min, IntKind.max, IntKind.signed, IntKind.bits] at h
  omega
theorem and_in (x : Int) (m : Nat) (hm : m < 9223372036854775808) : 0 ≤ Go.bits .and .i64 x (m : Int) ∧ Go.bits .and .i64 x (m : Int) ≤ m := by
  have h1 : (BitVec.ofInt 64 x &&& BitVec.ofInt 64 (m : Int)).toNat ≤ m := by
    rw [BitVec.toNat_and]
    refine Nat.le_trans Nat.and_le_right ?_
    rw [BitVec.ofInt_natCast, BitVec.toNat_ofNat]
    exact Nat.mod_le _ _
  have h2 : Go.bits .and .i64 x (m : Int) = IntKind.i64.wrap (((BitVec.ofInt 64 x &&& BitVec.ofInt 64 (m : Int)).toNat : Nat) : Int) := rfl
  rw [h2, Go.IntKind.wrap_i64]
  omega
theorem and255 (x : Int) : 0 ≤ Go.bits .and .i64 x 255 ∧ Go.bits .and .i64 x 255 ≤ 255 := and_in x 255 (by decide)
theorem tmod_in (x n : Int) (h0 : 0 ≤ x) (h : 1 ≤ n) : 0 ≤ Int.tmod x n ∧ Int.tmod x n < n := ⟨Int.tmod_nonneg _ h0, Int.tmod_lt_of_pos _ (by omega)⟩
theorem in_eq (a b c : Int) : spec_l01In.f a b c = some (decide (b ≤ a ∧ a ≤ c)) := by
  unfold spec_l01In.f
  by_cases h : a ≥ b
  · rw [if_pos h]; simp; omega
  · rw [if_neg h]; simp; omega
theorem within_eq (a b c : Int) : impl_within.f a b c = some (decide (b ≤ a ∧ a ≤ c)) := by
  unfold impl_within.f
  by_cases h : a ≥ b
  · rw [if_pos h]; simp; omega
  · rw [if_neg h]; simp; omega
/-- A valid expression. -/
def eok (o a b : Int) : Bool := decide (1 ≤ o ∧ o ≤ 7) && (decide (-8 ≤ a ∧ a ≤ 999) && decide (-8 ≤ b ∧ b ≤ 999))
theorem iexpr (o a b : Int) : impl_ExprOk.f o a b = some (eok o a b) := by
  unfold impl_ExprOk.f impl_OperandOk.f eok
  simp only [within_eq, Option.bind_some]
  cases decide (1 ≤ o ∧ o ≤ 7) <;> cases decide (-8 ≤ a ∧ a ≤ 999) <;> simp
theorem eok_in {o a b : Int} (h : eok o a b = true) : (1 ≤ o ∧ o ≤ 7) ∧ (-8 ≤ a ∧ a ≤ 999) ∧ (-8 ≤ b ∧ b ≤ 999) := by
  unfold eok at h
  simp only [Bool.and_eq_true, decide_eq_true_eq] at h
  exact h
theorem sexpr (o a b : Int) : spec_ExprOk.f o a b = some (eok o a b) := by
  unfold spec_ExprOk.f spec_OperandOk.f eok
  simp only [in_eq, Option.bind_some]
  cases decide (1 ≤ o ∧ o ≤ 7) <;> cases decide (-8 ≤ a ∧ a ≤ 999) <;> simp
/-- A valid statement. -/
def zok (o a b : Int) : Bool := decide (o = 0) && (decide (a = 0) && decide (b = 0))
def sok (c v n o a b : Int) : Bool :=
  if c = 1 then decide (0 ≤ v ∧ v ≤ 7) && (decide (n = 0) && eok o a b)
  else if c = 2 then decide (0 ≤ v ∧ v ≤ 7) && (decide (0 ≤ n ∧ n ≤ 3) && zok o a b)
  else if c = 3 then decide (v = 0) && (decide (n = 0) && eok o a b)
  else if c = 4 then decide (v = 0) && (decide (n = 0) && eok o a b)
  else if c = 5 then decide (v = 0) && (decide (1 ≤ n ∧ n ≤ 5) && zok o a b)
  else if c = 6 then decide (v = 0) && (decide (n = 0) && zok o a b)
  else false
theorem hasVar_eq (c : Int) : impl_hasVar.f c = some (decide (c = 1 ∨ c = 2)) := by
  unfold impl_hasVar.f
  by_cases h : c = 1
  · rw [if_pos h]; simp [h]
  · rw [if_neg h]; simp [h]; rfl
theorem hasExpr_eq (c : Int) : impl_hasExpr.f c = some (decide (c = 1 ∨ c = 3 ∨ c = 4)) := by
  unfold impl_hasExpr.f
  by_cases h : c = 1
  · rw [if_pos h]; simp [h]
  · rw [if_neg h]
    by_cases h2 : c = 3
    · rw [if_pos h2]; simp [h2]
    · rw [if_neg h2]; simp [h, h2]; rfl
theorem isVar_eq (v : Int) : impl_isVar.f v = some (decide (0 ≤ v ∧ v ≤ 7)) := by
  unfold impl_isVar.f; rw [within_eq]; rfl
theorem isSensor_eq (v : Int) : impl_isSensor.f v = some (decide (0 ≤ v ∧ v ≤ 3)) := by
  unfold impl_isSensor.f; rw [within_eq]; rfl
theorem istmt (c v n o a b : Int) (k : Nat) (hk : 2 ≤ k) : impl_StmtOk.f k c v n o a b = some (sok c v n o a b) := by
  obtain ⟨k, rfl⟩ : ∃ m, k = m + 2 := ⟨k - 2, by omega⟩
  unfold impl_StmtOk.f sok zok
  simp only [within_eq, hasVar_eq, isVar_eq, hasExpr_eq, isSensor_eq, iexpr, Option.bind_some, impl_StmtOk.j0, impl_StmtOk.j1]
  by_cases h1 : c = 1
  · subst h1
    cases decide (0 ≤ v ∧ v ≤ 7) <;> cases eok o a b <;> by_cases hn : n = 0 <;> simp [hn]
  · by_cases h2 : c = 2
    · subst h2
      cases decide (0 ≤ v ∧ v ≤ 7) <;> cases decide (0 ≤ n ∧ n ≤ 3) <;> by_cases ho : o = 0 <;> by_cases ha : a = 0 <;> by_cases hb : b = 0 <;> simp [ho, ha, hb]
    · by_cases h3 : c = 3
      · subst h3
        cases eok o a b <;> by_cases hn : n = 0 <;> by_cases hv : v = 0 <;> simp [hn, hv]
      · by_cases h4 : c = 4
        · subst h4
          cases eok o a b <;> by_cases hn : n = 0 <;> by_cases hv : v = 0 <;> simp [hn, hv]
        · by_cases h5 : c = 5
          · subst h5
            cases decide (1 ≤ n ∧ n ≤ 5) <;> by_cases hv : v = 0 <;> by_cases ho : o = 0 <;> by_cases ha : a = 0 <;> by_cases hb : b = 0 <;> simp [hv, ho, ha, hb]
          · by_cases h6 : c = 6
            · subst h6
              by_cases hn : n = 0 <;> by_cases hv : v = 0 <;> by_cases ho : o = 0 <;> by_cases ha : a = 0 <;> by_cases hb : b = 0 <;> simp [hn, hv, ho, ha, hb]
            · have hw : ¬ (1 ≤ c ∧ c ≤ 6) := by omega
              simp [h1, h2, h3, h4, h5, h6, hw]
theorem sstmt (c v n o a b : Int) (k : Nat) (hk : 2 ≤ k) : spec_StmtOk.f k c v n o a b = some (sok c v n o a b) := by
  obtain ⟨k, rfl⟩ : ∃ m, k = m + 2 := ⟨k - 2, by omega⟩
  unfold spec_StmtOk.f spec_l04Plain.f sok zok
  simp only [in_eq, sexpr, Option.bind_some, spec_StmtOk.j0]
  by_cases h1 : c = 1
  · subst h1
    cases decide (0 ≤ v ∧ v ≤ 7) <;> cases eok o a b <;> by_cases hn : n = 0 <;> simp [hn]
  · by_cases h2 : c = 2
    · subst h2
      cases decide (0 ≤ v ∧ v ≤ 7) <;> cases decide (0 ≤ n ∧ n ≤ 3) <;> by_cases ho : o = 0 <;> by_cases ha : a = 0 <;> by_cases hb : b = 0 <;> simp [ho, ha, hb]
    · by_cases h3 : c = 3
      · subst h3
        cases eok o a b <;> by_cases hn : n = 0 <;> by_cases hv : v = 0 <;> simp [hn, hv]
      · by_cases h4 : c = 4
        · subst h4
          cases eok o a b <;> by_cases hn : n = 0 <;> by_cases hv : v = 0 <;> simp [hn, hv]
        · by_cases h5 : c = 5
          · subst h5
            cases decide (1 ≤ n ∧ n ≤ 5) <;> by_cases hv : v = 0 <;> by_cases ho : o = 0 <;> by_cases ha : a = 0 <;> by_cases hb : b = 0 <;> simp [hv, ho, ha, hb]
          · by_cases h6 : c = 6
            · subst h6
              by_cases hn : n = 0 <;> by_cases hv : v = 0 <;> by_cases ho : o = 0 <;> by_cases ha : a = 0 <;> by_cases hb : b = 0 <;> simp [hn, hv, ho, ha, hb]
            · by_cases hn : n = 0 <;> by_cases hv : v = 0 <;> by_cases ho : o = 0 <;> by_cases ha : a = 0 <;> by_cases hb : b = 0 <;> simp [h1, h2, h3, h4, h5, h6, hn, hv, ho, ha, hb]
theorem rd_app (pre : List S39) (a : S39) (t : List S39) : rd_T39 (pre ++ a :: t) (pre.length : Int) = a := by
  unfold rd_T39
  simp [List.getD]
def okS (s : S39) : Bool := sok s.f0 s.f1 s.f2 s.f3.f0 s.f3.f1 s.f3.f2
def opn (s : S39) : Bool := decide (s.f0 = 4 ∨ s.f0 = 5)
def del (s : S39) : Int := if s.f0 = 4 ∨ s.f0 = 5 then 1 else if s.f0 = 6 then -1 else 0
theorem del_in (s : S39) : -1 ≤ del s ∧ del s ≤ 1 := by unfold del; split <;> (try split) <;> omega
def scan : List S39 → Int → Option Int
  | [], d => some d
  | s :: t, d => if okS s = true then (if 0 ≤ d + del s ∧ d + del s ≤ 3 then scan t (d + del s) else none) else none
def fin (o : Option Int) (n : Nat) : Bool := decide (o = some 0) && decide (n ≤ 24)
/-- Whether the statements are a valid block. -/
def blk (l : List S39) : Bool := fin (scan l 0) l.length
theorem opening_eq (c : Int) : impl_isOpening.f c = some (decide (c = 4 ∨ c = 5)) := by
  unfold impl_isOpening.f
  by_cases h : c = 4
  · simp [h]
  · rw [if_neg h]; congr 1; rw [Bool.eq_iff_iff]; simp [h]
theorem iscan (suf : List S39) : ∀ (k : Nat) (pre x : List S39) (d : Int), x = pre ++ suf → x.length ≤ 140737488351232 → 2 * suf.length + 4 ≤ k → 0 ≤ d → d ≤ 3 →
    impl_BlockOk.l0 k x d x (x.length : Int) (pre.length : Int) = some (fin (scan suf d) x.length) := by
  induction suf with
  | nil =>
    intro k pre x d hx hz hk d0 d1
    obtain ⟨k, rfl⟩ : ∃ m, k = m + 1 := ⟨k - 1, by omega⟩
    have hl : x.length = pre.length := by simp [hx]
    unfold impl_BlockOk.l0
    rw [if_neg (by omega)]
    unfold scan fin
    by_cases c : d = 0
    · rw [if_pos c, c]; congr 1; simp; omega
    · rw [if_neg c]; simp [c]
  | cons a t ih =>
    intro k pre x d hx hz hk d0 d1
    simp only [List.length_cons] at hk
    obtain ⟨k, rfl⟩ : ∃ m, k = m + 2 := ⟨k - 2, by omega⟩
    have hl : x.length = pre.length + (t.length + 1) := by simp [hx]
    have hr : rd_T39 x (pre.length : Int) = a := by rw [hx]; exact rd_app pre a t
    have hn : ((pre.length : Int) + 1) = (((pre ++ [a]).length : Nat) : Int) := by simp
    unfold impl_BlockOk.l0
    rw [if_pos (by omega), if_pos (by omega), if_pos (by omega)]
    simp only [hr]
    rw [istmt _ _ _ _ _ _ _ (by omega)]
    simp only [Option.bind_some]
    have hs : ∀ e, scan (a :: t) e = if okS a = true then (if 0 ≤ e + del a ∧ e + del a ≤ 3 then scan t (e + del a) else none) else none := fun e => rfl
    rw [hs]
    by_cases ok : okS a = true
    · rw [if_pos ok]
      unfold okS at ok
      rw [if_pos ok, opening_eq]
      simp only [Option.bind_some, decide_eq_true_eq]
      have step : ∀ e : Int, 0 ≤ e → e ≤ 3 → impl_BlockOk.l0 k x e x (x.length : Int) (wrap64 ((pre.length : Int) + 1)) = some (fin (scan t e) x.length) := by
        intro e e0 e1
        rw [w64 (by omega) (by omega), hn]
        exact ih k (pre ++ [a]) x e (by simp [hx]) hz (by omega) e0 e1
      by_cases o : a.f0 = 4 ∨ a.f0 = 5
      · have hd : del a = 1 := by unfold del; rw [if_pos o]
        rw [if_pos o, hd, w64 (n := d + 1) (by omega) (by omega)]
        unfold impl_BlockOk.j1
        rw [if_neg (by omega), if_neg (by omega)]
        by_cases c : d + 1 > 3
        · rw [if_pos c, if_neg (by omega)]; simp [fin]
        · rw [if_neg c, if_pos (by omega)]
          exact step _ (by omega) (by omega)
      · rw [if_neg o]
        unfold impl_BlockOk.j1
        by_cases c6 : a.f0 = 6
        · have hd : del a = -1 := by unfold del; rw [if_neg o, if_pos c6]
          rw [if_pos c6, hd, w64 (n := d - 1) (by omega) (by omega)]
          by_cases c : d - 1 < 0
          · rw [if_pos c, if_neg (by omega)]; simp [fin]
          · rw [if_neg c, if_neg (by omega), if_pos (by omega)]
            exact step _ (by omega) (by omega)
        · have hd : del a = 0 := by unfold del; rw [if_neg o, if_neg c6]
          rw [if_neg c6, hd, if_neg (by omega), if_neg (by omega), if_pos (by omega), show d + 0 = d by omega]
          exact step _ (by omega) (by omega)
    · rw [if_neg ok]
      unfold okS at ok
      rw [if_neg ok]
      simp [fin]
theorem iblock (l : List S39) (hz : l.length ≤ 140737488351232) (k : Nat) (hk : 2 * l.length + 4 ≤ k) : impl_BlockOk.f k l = some (blk l) :=
  iscan l k [] l 0 rfl hz hk (by omega) (by omega)
theorem sscan (suf : List S39) : ∀ (k : Nat) (pre x : List S39) (d : Int), x = pre ++ suf → x.length ≤ 140737488351232 → 2 * suf.length + 4 ≤ k → 0 ≤ d → d ≤ 3 →
    spec_BlockOk.l0 k x d (pre.length : Int) = some (fin (scan suf d) x.length) := by
  induction suf with
  | nil =>
    intro k pre x d hx hz hk d0 d1
    obtain ⟨k, rfl⟩ : ∃ m, k = m + 1 := ⟨k - 1, by omega⟩
    have hl : x.length = pre.length := by simp [hx]
    unfold spec_BlockOk.l0
    rw [if_neg (by omega)]
    unfold scan fin
    by_cases c : d = 0
    · rw [if_pos c, c]; congr 1; simp; omega
    · rw [if_neg c]; simp [c]
  | cons a t ih =>
    intro k pre x d hx hz hk d0 d1
    simp only [List.length_cons] at hk
    obtain ⟨k, rfl⟩ : ∃ m, k = m + 2 := ⟨k - 2, by omega⟩
    have hl : x.length = pre.length + (t.length + 1) := by simp [hx]
    have hr : rd_T39 x (pre.length : Int) = a := by rw [hx]; exact rd_app pre a t
    have hn : ((pre.length : Int) + 1) = (((pre ++ [a]).length : Nat) : Int) := by simp
    unfold spec_BlockOk.l0
    rw [if_pos (by omega), if_pos (by omega)]
    simp only [hr]
    rw [sstmt _ _ _ _ _ _ _ (by omega)]
    simp only [Option.bind_some]
    have hs : ∀ e, scan (a :: t) e = if okS a = true then (if 0 ≤ e + del a ∧ e + del a ≤ 3 then scan t (e + del a) else none) else none := fun e => rfl
    rw [hs]
    by_cases ok : okS a = true
    · rw [if_pos ok]
      unfold okS at ok
      rw [if_pos ok]
      have step : ∀ e : Int, 0 ≤ e → e ≤ 3 → spec_BlockOk.l0 k x e (wrap64 ((pre.length : Int) + 1)) = some (fin (scan t e) x.length) := by
        intro e e0 e1
        rw [w64 (by omega) (by omega), hn]
        exact ih k (pre ++ [a]) x e (by simp [hx]) hz (by omega) e0 e1
      have hj : ∀ b : Bool, b = decide (a.f0 = 4 ∨ a.f0 = 5) → spec_BlockOk.j1 (k + 1) x d (pre.length : Int) a.f0 b = some (fin (if 0 ≤ d + del a ∧ d + del a ≤ 3 then scan t (d + del a) else none) x.length) := by
        intro b hb
        unfold spec_BlockOk.j1
        by_cases o : a.f0 = 4 ∨ a.f0 = 5
        · have hd : del a = 1 := by unfold del; rw [if_pos o]
          rw [if_pos (by rw [hb]; exact decide_eq_true o), hd, w64 (n := d + 1) (by omega) (by omega), in_eq]
          simp only [Option.bind_some, decide_eq_true_eq]
          by_cases c : 0 ≤ d + 1 ∧ d + 1 ≤ 3
          · rw [if_pos c, if_pos c]; exact step _ c.1 c.2
          · rw [if_neg c, if_neg c]; simp [fin]
        · rw [if_neg (by rw [hb]; simp; omega)]
          by_cases c6 : a.f0 = 6
          · have hd : del a = -1 := by unfold del; rw [if_neg o, if_pos c6]
            rw [if_pos c6, hd, w64 (n := d - 1) (by omega) (by omega), in_eq, show d + -1 = d - 1 by omega]
            simp only [Option.bind_some, decide_eq_true_eq]
            by_cases c : 0 ≤ d - 1 ∧ d - 1 ≤ 3
            · rw [if_pos c, if_pos c]; exact step _ c.1 c.2
            · rw [if_neg c, if_neg c]; simp [fin]
          · have hd : del a = 0 := by unfold del; rw [if_neg o, if_neg c6]
            rw [if_neg c6, hd, in_eq, show d + 0 = d by omega]
            simp only [Option.bind_some, decide_eq_true_eq]
            rw [if_pos ⟨d0, d1⟩, if_pos ⟨d0, d1⟩]; exact step _ d0 d1
      by_cases c4 : a.f0 = 4
      · rw [if_pos c4]
        exact hj _ (by simp [c4])
      · rw [if_neg c4]
        exact hj _ (by rw [Bool.eq_iff_iff]; simp [c4])
    · rw [if_neg ok]
      unfold okS at ok
      rw [if_neg ok]
      simp [fin]
theorem sblock (l : List S39) (hz : l.length ≤ 140737488351232) (k : Nat) (hk : 2 * l.length + 4 ≤ k) : spec_BlockOk.f k l = some (blk l) :=
  sscan l k [] l 0 rfl hz hk (by omega) (by omega)
/-- Where the statement that is opened ends: depth d at place p. -/
def fend : List S39 → Int → Int → Int
  | [], _, _ => -1
  | a :: t, d, p => if a.f0 = 6 ∧ d = 1 then p else fend t (d + del a) (p + 1)
theorem at_split (x : List S39) (i : Int) (h0 : 0 ≤ i) (h1 : i < (x.length : Int)) : ∃ pre a t, x = pre ++ a :: t ∧ (pre.length : Int) = i ∧ rd_T39 x i = a := by
  have h : i.toNat < x.length := by omega
  refine ⟨x.take i.toNat, x[i.toNat], x.drop (i.toNat + 1), ?_, ?_, ?_⟩
  · rw [List.getElem_cons_drop, List.take_append_drop]
  · rw [List.length_take]; omega
  · unfold rd_T39
    rw [List.getD_eq_getElem?_getD, List.getElem?_eq_getElem h]
    rfl
theorem iend (suf : List S39) : ∀ (k : Nat) (pre x : List S39) (d : Int), x = pre ++ suf → x.length ≤ 1048576 → 2 * suf.length + 1 ≤ k → (1 ≤ d ∨ 0 ≤ d ∧ ∃ a t, suf = a :: t ∧ (a.f0 = 4 ∨ a.f0 = 5)) → d ≤ pre.length →
    impl_endOf.l0 k x d (pre.length : Int) = some (fend suf d (pre.length : Int)) := by
  induction suf with
  | nil =>
    intro k pre x d hx hz hk d0 d1
    obtain ⟨k, rfl⟩ : ∃ m, k = m + 1 := ⟨k - 1, by omega⟩
    have hl : x.length = pre.length := by simp [hx]
    unfold impl_endOf.l0
    rw [if_neg (by omega)]
    rfl
  | cons a t ih =>
    intro k pre x d hx hz hk d0 d1
    simp only [List.length_cons] at hk
    obtain ⟨k, rfl⟩ : ∃ m, k = m + 2 := ⟨k - 2, by omega⟩
    have hl : x.length = pre.length + (t.length + 1) := by simp [hx]
    have hr : rd_T39 x (pre.length : Int) = a := by rw [hx]; exact rd_app pre a t
    have hn : ((pre.length : Int) + 1) = (((pre ++ [a]).length : Nat) : Int) := by simp
    have hf : fend (a :: t) d (pre.length : Int) = if a.f0 = 6 ∧ d = 1 then (pre.length : Int) else fend t (d + del a) ((pre.length : Int) + 1) := rfl
    have step : ∀ e : Int, 1 ≤ e → e ≤ (pre.length : Int) + 1 → impl_endOf.l0 k x e (wrap64 ((pre.length : Int) + 1)) = some (fend t e ((pre.length : Int) + 1)) := by
      intro e e0 e1
      rw [w64 (by omega) (by omega), hn]
      exact ih k (pre ++ [a]) x e (by simp [hx]) hz (by omega) (Or.inl e0) (by omega)
    unfold impl_endOf.l0
    rw [if_pos (by omega), if_pos (by omega)]
    simp only [hr]
    rw [opening_eq, hf]
    simp only [Option.bind_some, decide_eq_true_eq]
    have j : ∀ e : Int, impl_endOf.j1 (k + 1) x e (pre.length : Int) = if a.f0 = 6 then (if wrap64 (e - 1) = 0 then some (pre.length : Int) else impl_endOf.l0 k x (wrap64 (e - 1)) (wrap64 ((pre.length : Int) + 1))) else if e = 0 then some (pre.length : Int) else impl_endOf.l0 k x e (wrap64 ((pre.length : Int) + 1)) := by
      intro e
      unfold impl_endOf.j1
      rw [if_pos (by omega), if_pos (by omega)]
      simp only [hr]
    by_cases o : a.f0 = 4 ∨ a.f0 = 5
    · have hd : del a = 1 := by unfold del; rw [if_pos o]
      have d2 : 0 ≤ d := by omega
      rw [if_pos o, hd, w64 (n := d + 1) (by omega) (by omega), j, if_neg (by omega), if_neg (by omega), if_neg (by omega)]
      exact step _ (by omega) (by omega)
    · have d2 : 1 ≤ d := by
        rcases d0 with h | ⟨h, a', t', e1, e2⟩
        · exact h
        · cases e1; exact absurd e2 o
      rw [if_neg o, j]
      by_cases c6 : a.f0 = 6
      · have hd : del a = -1 := by unfold del; rw [if_neg o, if_pos c6]
        rw [if_pos c6, hd, w64 (n := d - 1) (by omega) (by omega)]
        by_cases c : d = 1
        · rw [if_pos (by omega), if_pos ⟨c6, c⟩]
        · rw [if_neg (by omega), if_neg (by omega), show d + -1 = d - 1 by omega]
          exact step _ (by omega) (by omega)
      · have hd : del a = 0 := by unfold del; rw [if_neg o, if_neg c6]
        rw [if_neg c6, hd, if_neg (by omega), if_neg (by omega), show d + 0 = d by omega]
        exact step _ (by omega) (by omega)
theorem sopens_eq (c v n o a b : Int) : spec_l05Opens.f c v n o a b = some (decide (c = 4 ∨ c = 5)) := by
  unfold spec_l05Opens.f
  by_cases h : c = 4
  · simp [h]
  · rw [if_neg h]; congr 1; rw [Bool.eq_iff_iff]; simp [h]
theorem send (suf : List S39) : ∀ (k : Nat) (pre x : List S39) (d : Int), x = pre ++ suf → x.length ≤ 1048576 → 2 * suf.length + 1 ≤ k → (1 ≤ d ∨ 0 ≤ d ∧ ∃ a t, suf = a :: t ∧ (a.f0 = 4 ∨ a.f0 = 5)) → d ≤ pre.length →
    spec_l05End.l0 k x d (pre.length : Int) = some (fend suf d (pre.length : Int)) := by
  induction suf with
  | nil =>
    intro k pre x d hx hz hk d0 d1
    obtain ⟨k, rfl⟩ : ∃ m, k = m + 1 := ⟨k - 1, by omega⟩
    have hl : x.length = pre.length := by simp [hx]
    unfold spec_l05End.l0
    rw [if_neg (by omega)]
    rfl
  | cons a t ih =>
    intro k pre x d hx hz hk d0 d1
    simp only [List.length_cons] at hk
    obtain ⟨k, rfl⟩ : ∃ m, k = m + 2 := ⟨k - 2, by omega⟩
    have hl : x.length = pre.length + (t.length + 1) := by simp [hx]
    have hr : rd_T39 x (pre.length : Int) = a := by rw [hx]; exact rd_app pre a t
    have hn : ((pre.length : Int) + 1) = (((pre ++ [a]).length : Nat) : Int) := by simp
    have hf : fend (a :: t) d (pre.length : Int) = if a.f0 = 6 ∧ d = 1 then (pre.length : Int) else fend t (d + del a) ((pre.length : Int) + 1) := rfl
    have step : ∀ e : Int, 1 ≤ e → e ≤ (pre.length : Int) + 1 → spec_l05End.l0 k x e (wrap64 ((pre.length : Int) + 1)) = some (fend t e ((pre.length : Int) + 1)) := by
      intro e e0 e1
      rw [w64 (by omega) (by omega), hn]
      exact ih k (pre ++ [a]) x e (by simp [hx]) hz (by omega) (Or.inl e0) (by omega)
    unfold spec_l05End.l0
    rw [if_pos (by omega), if_pos (by omega)]
    simp only [hr]
    rw [sopens_eq, hf]
    simp only [Option.bind_some, decide_eq_true_eq]
    have j : ∀ e : Int, spec_l05End.j1 (k + 1) x e (pre.length : Int) = if a.f0 = 6 then (if wrap64 (e - 1) = 0 then some (pre.length : Int) else spec_l05End.l0 k x (wrap64 (e - 1)) (wrap64 ((pre.length : Int) + 1))) else spec_l05End.l0 k x e (wrap64 ((pre.length : Int) + 1)) := by
      intro e
      unfold spec_l05End.j1
      rw [if_pos (by omega), if_pos (by omega)]
      simp only [hr]
    by_cases o : a.f0 = 4 ∨ a.f0 = 5
    · have hd : del a = 1 := by unfold del; rw [if_pos o]
      have d2 : 0 ≤ d := by omega
      rw [if_pos o, hd, w64 (n := d + 1) (by omega) (by omega), j, if_neg (by omega), if_neg (by omega)]
      exact step _ (by omega) (by omega)
    · have d2 : 1 ≤ d := by
        rcases d0 with h | ⟨h, a', t', e1, e2⟩
        · exact h
        · cases e1; exact absurd e2 o
      rw [if_neg o, j]
      by_cases c6 : a.f0 = 6
      · have hd : del a = -1 := by unfold del; rw [if_neg o, if_pos c6]
        rw [if_pos c6, hd, w64 (n := d - 1) (by omega) (by omega)]
        by_cases c : d = 1
        · rw [if_pos (by omega), if_pos ⟨c6, c⟩]
        · rw [if_neg (by omega), if_neg (by omega), show d + -1 = d - 1 by omega]
          exact step _ (by omega) (by omega)
      · have hd : del a = 0 := by unfold del; rw [if_neg o, if_neg c6]
        rw [if_neg c6, hd, if_neg (by omega), show d + 0 = d by omega]
        exact step _ (by omega) (by omega)
def tot : List S39 → Int
  | [] => 0
  | a :: s => del a + tot s
def mnp : List S39 → Int
  | [] => 0
  | a :: s => if del a + mnp s < 0 then del a + mnp s else 0
theorem mnp_le (s : List S39) : mnp s ≤ 0 ∧ mnp s ≤ tot s := by
  induction s with
  | nil => exact ⟨Int.le_refl _, Int.le_refl _⟩
  | cons a s ih => unfold mnp tot; split <;> omega
theorem tot_in (s : List S39) : -(s.length : Int) ≤ tot s ∧ tot s ≤ s.length := by
  induction s with
  | nil => exact ⟨by simp [tot], by simp [tot]⟩
  | cons a s ih => have := del_in a; unfold tot; simp only [List.length_cons]; omega
theorem tot_app (s r : List S39) : tot (s ++ r) = tot s + tot r := by
  induction s with
  | nil => simp [tot]
  | cons a s ih =>
    have h : tot (a :: s ++ r) = del a + tot (s ++ r) := rfl
    have h2 : tot (a :: s) = del a + tot s := rfl
    omega
theorem fend_app (s : List S39) : ∀ (r : List S39) (d p : Int), 1 ≤ d →
    (mnp s + d ≤ 0 → p ≤ fend (s ++ r) d p ∧ fend (s ++ r) d p < p + s.length) ∧ (1 ≤ mnp s + d → fend (s ++ r) d p = fend r (d + tot s) (p + s.length) ∧ 1 ≤ d + tot s) := by
  induction s with
  | nil =>
    intro r d p h
    refine ⟨fun c => ?_, fun c => ?_⟩
    · unfold mnp at c; omega
    · have e : tot ([] : List S39) = 0 := rfl
      rw [e]
      simp; exact h
  | cons a s ih =>
    intro r d p h
    have hm := mnp_le s
    have hf : fend (a :: s ++ r) d p = if a.f0 = 6 ∧ d = 1 then p else fend (s ++ r) (d + del a) (p + 1) := rfl
    have h1 : mnp (a :: s) = if del a + mnp s < 0 then del a + mnp s else 0 := rfl
    have h2 : tot (a :: s) = del a + tot s := rfl
    have hd : del a = if a.f0 = 4 ∨ a.f0 = 5 then 1 else if a.f0 = 6 then -1 else 0 := rfl
    have hdi := del_in a
    rw [hf, h1, h2]
    simp only [List.length_cons]
    by_cases c : a.f0 = 6 ∧ d = 1
    · rw [if_pos c]
      rw [if_neg (by omega), if_pos c.1] at hd
      rw [if_pos (by omega)]
      exact ⟨fun _ => ⟨by omega, by omega⟩, fun _ => by omega⟩
    · rw [if_neg c]
      have hde : 1 ≤ d + del a := by
        by_cases c6 : a.f0 = 6
        · omega
        · rw [hd]; split
          · omega
          · omega
      obtain ⟨i1, i2⟩ := ih r (d + del a) (p + 1) hde
      refine ⟨fun k => ?_, fun k => ?_⟩
      · have := i1 (by revert k; split <;> omega)
        push_cast
        omega
      · have := i2 (by revert k; split <;> omega)
        rw [this.1, show d + del a + tot s = d + (del a + tot s) by omega, show p + 1 + (s.length : Int) = p + ((s.length + 1 : Nat) : Int) by push_cast; omega]
        exact ⟨rfl, by omega⟩
theorem scan_app (s : List S39) : ∀ (r : List S39) (d e : Int), 0 ≤ d → d ≤ 3 → scan (s ++ r) d = some e → 0 ≤ d + mnp s ∧ d + tot s ≤ 3 ∧ scan r (d + tot s) = some e ∧ (∀ a ∈ s, okS a = true) := by
  induction s with
  | nil =>
    intro r d e h0 h1 h
    have e1 : tot ([] : List S39) = 0 := rfl
    have e2 : mnp ([] : List S39) = 0 := rfl
    rw [e1, e2, show d + 0 = d by omega]
    exact ⟨h0, h1, h, fun a ha => by simp at ha⟩
  | cons a s ih =>
    intro r d e h0 h1 h
    have hs : scan (a :: s ++ r) d = if okS a = true then (if 0 ≤ d + del a ∧ d + del a ≤ 3 then scan (s ++ r) (d + del a) else none) else none := rfl
    rw [hs] at h
    by_cases ok : okS a = true
    · rw [if_pos ok] at h
      by_cases c : 0 ≤ d + del a ∧ d + del a ≤ 3
      · rw [if_pos c] at h
        obtain ⟨i1, i2, i3, i4⟩ := ih r _ e c.1 c.2 h
        have h1 : mnp (a :: s) = if del a + mnp s < 0 then del a + mnp s else 0 := rfl
        have h2 : tot (a :: s) = del a + tot s := rfl
        rw [h1, h2]
        refine ⟨by split <;> omega, by omega, by rw [show d + (del a + tot s) = d + del a + tot s by omega]; exact i3, ?_⟩
        intro b hb
        rcases List.mem_cons.mp hb with rfl | hb
        · exact ok
        · exact i4 b hb
      · rw [if_neg c] at h; exact absurd h (by simp)
    · rw [if_neg ok] at h; exact absurd h (by simp)
theorem blk_scan {x : List S39} (h : blk x = true) : scan x 0 = some 0 ∧ x.length ≤ 24 := by
  unfold blk fin at h
  simpa using h
theorem blk_tot {x : List S39} (h : blk x = true) : tot x = 0 := by
  obtain ⟨h1, _⟩ := blk_scan h
  have h2 := scan_app x [] 0 0 (by omega) (by omega) (by simpa using h1)
  have h3 := h2.2.2.1
  simp only [scan, Option.some.injEq] at h3
  omega
theorem asc_eq {a b : List Int} (ha : a.Pairwise (· < ·)) (hb : b.Pairwise (· < ·)) (h : ∀ x, x ∈ a ↔ x ∈ b) : a = b := by
  have na : a.Nodup := ha.imp (fun hlt => Int.ne_of_lt hlt)
  have nb : b.Nodup := hb.imp (fun hlt => Int.ne_of_lt hlt)
  have hp : a.Perm b := (List.perm_ext_iff_of_nodup na nb).2 h
  exact hp.eq_of_pairwise (fun x y _ _ h1 h2 => by omega) ha hb
theorem compactUpTo_asc (d : Array Int) (hs : ∀ i j, i ≤ j → j < d.size → d[i]! ≤ d[j]!) (m : Nat) (hm : m ≤ d.size) :
    (Lib.compactUpTo d m).Pairwise (· < ·) ∧ (∀ x, x ∈ Lib.compactUpTo d m ↔ ∃ j, j < m ∧ d[j]! = x) := by
  induction m with
  | zero => exact ⟨by simp [Lib.compactUpTo], by simp [Lib.compactUpTo]⟩
  | succ m ih =>
    obtain ⟨h1, h2⟩ := ih (by omega)
    rw [Lib.compactUpTo_succ]
    cases hk : Lib.keeps d m with
    | true =>
      simp only [if_true]
      refine ⟨?_, fun x => ?_⟩
      · rw [List.pairwise_append]
        refine ⟨h1, by simp, fun x hx y hy => ?_⟩
        rw [List.mem_singleton] at hy
        subst hy
        obtain ⟨j, hj, rfl⟩ := (h2 x).1 hx
        have hle1 := hs j (m - 1) (by omega) (by omega)
        have hle2 := hs (m - 1) m (by omega) (by omega)
        have hne : m = 0 ∨ d[m]! ≠ d[m - 1]! := by
          unfold Lib.keeps at hk
          exact of_decide_eq_true hk
        rcases hne with h | h
        · omega
        · omega
      · rw [List.mem_append, h2, List.mem_singleton]
        constructor
        · rintro (⟨j, hj, rfl⟩ | rfl)
          · exact ⟨j, by omega, rfl⟩
          · exact ⟨m, by omega, rfl⟩
        · rintro ⟨j, hj, rfl⟩
          by_cases e : j = m
          · subst e; exact .inr rfl
          · exact .inl ⟨j, by omega, rfl⟩
    | false =>
      simp only [Bool.false_eq_true, if_false, List.append_nil]
      refine ⟨h1, fun x => ?_⟩
      rw [h2]
      have hd : ¬ (m = 0 ∨ d[m]! ≠ d[m - 1]!) := by
        unfold Lib.keeps at hk
        exact of_decide_eq_false hk
      have hm0 : m ≠ 0 := fun e => hd (.inl e)
      have he : d[m]! = d[m - 1]! := by
        by_cases e : d[m]! = d[m - 1]!
        · exact e
        · exact absurd (.inr e) hd
      constructor
      · rintro ⟨j, hj, rfl⟩
        exact ⟨j, by omega, rfl⟩
      · rintro ⟨j, hj, rfl⟩
        by_cases e : j = m
        · subst e; exact ⟨j - 1, by omega, he.symm⟩
        · exact ⟨j, by omega, rfl⟩
/-- Sorted and compacted: each element once, ascending. -/
theorem sortc (l : List Int) : (Lib.compact (l.mergeSort fun x y => decide (x ≤ y))).Pairwise (· < ·) ∧ ∀ x, x ∈ Lib.compact (l.mergeSort fun x y => decide (x ≤ y)) ↔ x ∈ l := by
  have hp : (l.mergeSort fun x y => decide (x ≤ y)).Perm l := List.mergeSort_perm _ _
  have hs := List.pairwise_mergeSort (le := fun (x y : Int) => decide (x ≤ y)) (by intro a b c h1 h2; simp at *; omega) (by intro a b; simp; omega) l
  generalize (l.mergeSort fun x y => decide (x ≤ y)) = s at hp hs
  have hidx : ∀ i j, i ≤ j → j < s.toArray.size → s.toArray[i]! ≤ s.toArray[j]! := by
    intro i j hij hj
    have hj' : j < s.length := by simpa using hj
    have e1 : s.toArray[i]! = s[i]'(by omega) := by simp [getElem!_pos, show i < s.length by omega]
    have e2 : s.toArray[j]! = s[j]'hj' := by simp [getElem!_pos, hj']
    rw [e1, e2]
    by_cases e : i = j
    · subst e; exact Int.le_refl _
    · have := List.pairwise_iff_getElem.1 hs i j (by omega) hj' (by omega)
      exact of_decide_eq_true this
  obtain ⟨h1, h2⟩ := compactUpTo_asc s.toArray hidx s.length (by simp)
  refine ⟨h1, fun x => ?_⟩
  rw [← hp.mem_iff]
  unfold Lib.compact
  rw [h2]
  constructor
  · rintro ⟨j, hj, rfl⟩
    have e1 : s.toArray[j]! = s[j]'hj := by simp [getElem!_pos, hj]
    rw [e1]
    exact List.getElem_mem hj
  · intro hx
    obtain ⟨j, hj, rfl⟩ := List.mem_iff_getElem.1 hx
    exact ⟨j, hj, by simp [getElem!_pos, hj]⟩
theorem fend_find (u : List S39) : ∀ (d p : Int), 1 ≤ d → mnp u + d ≤ 0 → ∃ s c r, u = s ++ c :: r ∧ c.f0 = 6 ∧ d + tot s = 1 ∧ fend u d p = p + s.length := by
  induction u with
  | nil => intro d p h1 h2; have : mnp ([] : List S39) = 0 := rfl; omega
  | cons a t ih =>
    intro d p h1 h2
    have hm : mnp (a :: t) = if del a + mnp t < 0 then del a + mnp t else 0 := rfl
    have hf : fend (a :: t) d p = if a.f0 = 6 ∧ d = 1 then p else fend t (d + del a) (p + 1) := rfl
    by_cases c : a.f0 = 6 ∧ d = 1
    · refine ⟨[], a, t, rfl, c.1, ?_, ?_⟩
      · have : tot ([] : List S39) = 0 := rfl
        omega
      · rw [hf, if_pos c]; simp
    · have hd : del a = if a.f0 = 4 ∨ a.f0 = 5 then 1 else if a.f0 = 6 then -1 else 0 := rfl
      have hdi := del_in a
      have hde : 1 ≤ d + del a := by
        by_cases c6 : a.f0 = 6
        · omega
        · rw [hd]; split
          · omega
          · omega
      obtain ⟨s, x, r, e1, e2, e3, e4⟩ := ih (d + del a) (p + 1) hde (by rw [hm] at h2; revert h2; split <;> omega)
      refine ⟨a :: s, x, r, by rw [e1]; rfl, e2, ?_, ?_⟩
      · have : tot (a :: s) = del a + tot s := rfl
        omega
      · rw [hf, if_neg c, e4]; simp only [List.length_cons]; push_cast; omega
theorem if_end {x pre u : List S39} {a : S39} (b : blk x = true) (hx : x = pre ++ a :: u) (o : a.f0 = 4 ∨ a.f0 = 5) : ∃ s c r, u = s ++ c :: r ∧ c.f0 = 6 ∧ tot s = 0 ∧ fend (a :: u) 0 (pre.length : Int) = (pre.length : Int) + 1 + s.length ∧ fend u 1 ((pre.length : Int) + 1) = (pre.length : Int) + 1 + s.length := by
  have hs := blk_scan b
  have hsa := scan_app pre (a :: u) 0 0 (by omega) (by omega) (by rw [← hx]; exact hs.1)
  have hm := mnp_le pre
  have ht : tot x = tot pre + (del a + tot u) := by
    rw [hx, tot_app]
    have h4 : tot (a :: u) = del a + tot u := rfl
    rw [h4]
  have ht0 := blk_tot b
  have hdl : del a = 1 := by unfold del; rw [if_pos o]
  have hmu := mnp_le u
  obtain ⟨s, c, r, e1, e2, e3, e4⟩ := fend_find u 1 ((pre.length : Int) + 1) (by omega) (by omega)
  refine ⟨s, c, r, e1, e2, by omega, ?_, e4⟩
  have h0 : fend (a :: u) 0 (pre.length : Int) = if a.f0 = 6 ∧ (0 : Int) = 1 then (pre.length : Int) else fend u (0 + del a) ((pre.length : Int) + 1) := rfl
  rw [h0, if_neg (by omega), hdl]
  exact e4
theorem rd_get (xs : List Int) (i : Int) (h0 : 0 ≤ i) (h1 : i < (xs.length : Int)) : xs[i.toNat]? = some (rd xs i) := by
  have h : i.toNat < xs.length := by omega
  unfold Go.Proofs.YtlhcofkandeepaaW.PrintWords.rd
  rw [List.getD_eq_getElem?_getD, List.getElem?_eq_getElem h]
  rfl
theorem eqInt_loop (l : List Int) (sz : (l.length : Int) ≤ 140737488351232) (d : Nat) : ∀ (k : Nat) (i : Int), 0 ≤ i → i ≤ l.length → (l.length : Int) - i = d → d < k → laws_eqIntS.l0 k l l i = some true := by
  induction d with
  | zero =>
    intro k i h0 h1 hd hk
    obtain ⟨k, rfl⟩ : ∃ m, k = m + 1 := ⟨k - 1, by omega⟩
    simp only [laws_eqIntS.l0]
    rw [if_neg (by omega)]
  | succ d ih =>
    intro k i h0 h1 hd hk
    obtain ⟨k, rfl⟩ : ∃ m, k = m + 1 := ⟨k - 1, by omega⟩
    simp only [laws_eqIntS.l0]
    rw [if_pos (by omega), if_pos h0, if_pos (by omega), if_pos trivial, w64 (n := i + 1) (by omega) (by omega)]
    exact ih k (i + 1) (by omega) (by omega) (by omega) (by omega)
theorem eqInt_self (l : List Int) (sz : (l.length : Int) ≤ 140737488351232) : ∀ k, l.length < k → laws_eqIntS.f k l l = some true := by
  intro k hk
  unfold laws_eqIntS.f
  rw [if_pos rfl]
  exact eqInt_loop l sz l.length k 0 (by omega) (by omega) (by omega) hk
theorem mark_loop (d : Nat) : ∀ (k : Nat) (x : List Int) (a i : Int), 0 ≤ i → i ≤ x.length → (x.length : Int) - i = d → d < k → (x.length : Int) ≤ 140737488351232 → 0 ≤ a → a + d ≤ 1407374883512320 →
    ∃ y, laws_markIntS.l0 k x a i = some (a + d, y) ∧ y.length = x.length ∧ (∀ j : Nat, (j : Int) < i → y[j]? = x[j]?) ∧ ∀ j : Nat, i ≤ (j : Int) → (j : Int) < x.length → y[j]? = some (a + ((j : Int) - i)) := by
  induction d with
  | zero =>
    intro k x a i h0 h1 hd hk sz a0 a1
    obtain ⟨k, rfl⟩ : ∃ m, k = m + 1 := ⟨k - 1, by omega⟩
    refine ⟨x, ?_, rfl, fun _ _ => rfl, fun j h2 h3 => by omega⟩
    simp only [laws_markIntS.l0]
    rw [if_neg (by omega)]
    simp
  | succ d ih =>
    intro k x a i h0 h1 hd hk sz a0 a1
    obtain ⟨k, rfl⟩ : ∃ m, k = m + 1 := ⟨k - 1, by omega⟩
    have hl : (x.set i.toNat a).length = x.length := List.length_set
    obtain ⟨y, e, hy, hlo, hhi⟩ := ih k (x.set i.toNat a) (a + 1) (i + 1) (by omega) (by omega) (by omega) (by omega) (by omega) (by omega) (by omega)
    refine ⟨y, ?_, by omega, fun j hj => ?_, fun j hj hj2 => ?_⟩
    · simp only [laws_markIntS.l0]
      rw [if_pos (by omega), if_pos h0, w64 (n := a + 1) (by omega) (by omega), w64 (n := i + 1) (by omega) (by omega), e]
      congr 2
      omega
    · rw [hlo j (by omega), List.getElem?_set_ne (by omega)]
    · by_cases e2 : (j : Int) = i
      · have e3 : j = i.toNat := by omega
        rw [hlo j (by omega), e3, List.getElem?_set_self (by omega)]
        congr 1
        omega
      · rw [hhi j (by omega) (by omega)]
        congr 1
        omega
theorem held_loop (x : List Int) (sz : (x.length : Int) ≤ 140737488351232) (d : Nat) : ∀ (k : Nat) (a i : Int), 0 ≤ i → i ≤ x.length → (x.length : Int) - i = d → d < k → 0 ≤ a → a + d ≤ 1407374883512320 →
    (∀ j : Nat, i ≤ (j : Int) → (j : Int) < x.length → x[j]? = some (a + ((j : Int) - i))) → laws_heldIntS.l0 k x a i = some (a + d) := by
  induction d with
  | zero =>
    intro k a i h0 h1 hd hk a0 a1 hx
    obtain ⟨k, rfl⟩ : ∃ m, k = m + 1 := ⟨k - 1, by omega⟩
    simp only [laws_heldIntS.l0]
    rw [if_neg (by omega)]
    simp
  | succ d ih =>
    intro k a i h0 h1 hd hk a0 a1 hx
    obtain ⟨k, rfl⟩ : ∃ m, k = m + 1 := ⟨k - 1, by omega⟩
    have hr : rd x i = a := by
      have h2 := rd_get x i h0 (by omega)
      rw [hx i.toNat (by omega) (by omega)] at h2
      have h3 := Option.some.inj h2
      omega
    simp only [laws_heldIntS.l0]
    rw [if_pos (by omega), if_pos h0, if_pos hr, w64 (n := a + 1) (by omega) (by omega), w64 (n := i + 1) (by omega) (by omega)]
    rw [ih k (a + 1) (i + 1) (by omega) (by omega) (by omega) (by omega) (by omega) (by omega) (fun j h2 h3 => by rw [hx j (by omega) h3]; congr 1; omega)]
    congr 1
    omega
theorem mark_tells (l : List Int) (sz : (l.length : Int) ≤ 140737488351232) (a : Int) (a0 : 0 ≤ a) (a1 : a ≤ 140737488351232) : ∃ y, (∀ k, l.length < k → laws_markIntS.f k l a = some (a + l.length, y)) ∧ (∀ k, l.length < k → laws_heldIntS.f k y a = some (a + l.length)) ∧ y.length = l.length := by
  obtain ⟨y, e, hy, _, hhi⟩ := mark_loop l.length (l.length + 1) l a 0 (by omega) (by omega) (by omega) (by omega) sz a0 (by omega)
  refine ⟨y, fun k hk => ?_, fun k hk => ?_, hy⟩
  · exact at_rounds (fun k => laws_markIntS.mono l a k) (by omega : l.length + 1 ≤ k) e
  · unfold laws_heldIntS.f
    exact held_loop y (by omega) l.length k a 0 (by omega) (by omega) (by omega) hk a0 (by omega) (fun j h2 h3 => by rw [hhi j h2 (by omega)])
def cnv (s : S73) : S39 := ⟨s.f0, s.f1, s.f2, ⟨s.f3.f0, s.f3.f1, s.f3.f2⟩⟩
theorem rdc (xs : List S73) (i : Int) (h0 : 0 ≤ i) (h1 : i < (xs.length : Int)) : (xs.map cnv)[i.toNat]? = some (cnv (rd_T73 xs i)) := by
  have h : i.toNat < xs.length := by omega
  unfold rd_T73
  rw [List.getElem?_map, List.getD_eq_getElem?_getD, List.getElem?_eq_getElem h]
  rfl
theorem toStmt_loop (l : List S73) (sz : (l.length : Int) ≤ 140737488351232) (d : Nat) : ∀ (k : Nat) (x : List S39) (i : Int), 0 ≤ i → i ≤ l.length → (l.length : Int) - i = d → d < k → x.length = l.length → (∀ j : Nat, (j : Int) < i → x[j]? = (l.map cnv)[j]?) →
    laws_toStmtS.l0 k l x i = some (l.map cnv) := by
  induction d with
  | zero =>
    intro k x i h0 h1 hd hk hl hx
    obtain ⟨k, rfl⟩ : ∃ m, k = m + 1 := ⟨k - 1, by omega⟩
    simp only [laws_toStmtS.l0]
    rw [if_neg (by omega)]
    congr 1
    apply List.ext_getElem?
    intro j
    by_cases hj : (j : Int) < i
    · exact hx j hj
    · rw [List.getElem?_eq_none (by omega), List.getElem?_eq_none (by simp; omega)]
  | succ d ih =>
    intro k x i h0 h1 hd hk hl hx
    obtain ⟨k, rfl⟩ : ∃ m, k = m + 1 := ⟨k - 1, by omega⟩
    simp only [laws_toStmtS.l0, laws_toStmt.f, laws_toExpr.f, Option.bind_some]
    rw [if_pos (by omega), if_pos h0, if_pos (by omega), w64 (n := i + 1) (by omega) (by omega)]
    refine ih k _ (i + 1) (by omega) (by omega) (by omega) (by omega) (by simp [hl]) ?_
    intro j hj
    by_cases e : (j : Int) = i
    · have e2 : j = i.toNat := by omega
      subst e2
      rw [rdc l i h0 (by omega), List.getElem?_set_self (by omega)]
      rfl
    · rw [List.getElem?_set_ne (by omega)]
      exact hx j (by omega)
theorem toStmt_tells (l : List S73) (h : (l.length : Int) ≤ 1048576) : ∀ k, l.length < k → laws_toStmtS.f k l = some (l.map cnv) := by
  intro k hk
  unfold laws_toStmtS.f
  rw [if_pos (by omega), if_pos (by omega)]
  exact toStmt_loop l (by omega) l.length k _ 0 (by omega) (by omega) (by omega) hk (by simp) (fun j hj => by omega)
theorem eqStmt_loop (l : List S39) (sz : (l.length : Int) ≤ 140737488351232) (d : Nat) : ∀ (k : Nat) (i : Int), 0 ≤ i → i ≤ l.length → (l.length : Int) - i = d → d < k → laws_eqStmtS.l0 k l l i = some true := by
  induction d with
  | zero =>
    intro k i h0 h1 hd hk
    obtain ⟨k, rfl⟩ : ∃ m, k = m + 1 := ⟨k - 1, by omega⟩
    simp only [laws_eqStmtS.l0]
    rw [if_neg (by omega)]
  | succ d ih =>
    intro k i h0 h1 hd hk
    obtain ⟨k, rfl⟩ : ∃ m, k = m + 1 := ⟨k - 1, by omega⟩
    simp only [laws_eqStmtS.l0, laws_eqStmt.f, laws_eqExpr.f, if_true, Option.bind_some]
    rw [if_pos (by omega), if_pos h0, if_pos (by omega), w64 (n := i + 1) (by omega) (by omega)]
    exact ih k (i + 1) (by omega) (by omega) (by omega) (by omega)
theorem eqStmt_self (l : List S39) (sz : (l.length : Int) ≤ 140737488351232) : ∀ k, l.length < k → laws_eqStmtS.f k l l = some true := by
  intro k hk
  unfold laws_eqStmtS.f
  rw [if_pos rfl]
  exact eqStmt_loop l sz l.length k 0 (by omega) (by omega) (by omega) hk
theorem sz_tells (l : List S73) (hl : l.length ≤ maxLen) : ∃ t, laws_szStmtS.f l 1048576 = some t ∧ (t < 0 ∨ (l.length : Int) ≤ 1048576) := by
  have hm : (maxLen : Int) ≤ 9223372036854775807 := by decide
  unfold laws_szStmtS.f
  rw [w64 (by omega) (by omega)]
  by_cases c : 1048576 - (l.length : Int) < 0
  · rw [if_pos c]; exact ⟨-1, rfl, Or.inl (by omega)⟩
  · rw [if_neg c]; exact ⟨_, rfl, Or.inr (by omega)⟩
/-- A statement that writes a variable. -/
def isw (s : S39) : Bool := decide (s.f0 = 1 ∨ s.f0 = 2)
/-- The numbers below 8 of which something is true, ascending. -/
def asc8 (p : Nat → Bool) : List Int := ((List.range 8).filter p).map (fun i : Nat => (i : Int))
def vin (v : List Int) (i : Nat) : Bool := decide ((i : Int) ∈ v)
theorem asc8_asc (p : Nat → Bool) : (asc8 p).Pairwise (· < ·) := by
  unfold asc8
  rw [List.pairwise_map]
  exact (List.pairwise_lt_range.filter p).imp (fun h => by omega)
theorem mem_asc8 (p : Nat → Bool) (x : Int) : x ∈ asc8 p ↔ 0 ≤ x ∧ x < 8 ∧ p x.toNat = true := by
  unfold asc8
  simp only [List.mem_map, List.mem_filter, List.mem_range]
  constructor
  · rintro ⟨i, ⟨hi, hh⟩, rfl⟩
    exact ⟨by omega, by omega, by simpa using hh⟩
  · rintro ⟨h0, h1, hh⟩
    exact ⟨x.toNat, ⟨by omega, hh⟩, by omega⟩
theorem asc8_len (p : Nat → Bool) : (asc8 p).length ≤ 8 := by
  unfold asc8
  rw [List.length_map]
  exact Nat.le_trans (List.length_filter_le _ _) (by simp)
theorem mem_vin (v : List Int) (hv : ∀ x ∈ v, 0 ≤ x ∧ x < 8) (x : Int) : x ∈ asc8 (vin v) ↔ x ∈ v := by
  rw [mem_asc8]
  unfold vin
  constructor
  · rintro ⟨a, b, c⟩
    rw [Int.toNat_of_nonneg a] at c
    exact of_decide_eq_true c
  · intro hx
    obtain ⟨a, b⟩ := hv x hx
    exact ⟨a, b, by rw [Int.toNat_of_nonneg a]; exact decide_eq_true hx⟩
theorem wsort (v : List Int) (hv : ∀ x ∈ v, 0 ≤ x ∧ x < 8) (hl : v.length ≤ 1000) : ((slices_Sort_int_int.f v).bind fun t => ((slices_Compact_int_int.f t).bind fun t => some t)) = some (asc8 (vin v)) := by
  obtain ⟨h1, h2⟩ := sortc v
  unfold slices_Sort_int_int.f
  rw [if_pos (by omega)]
  simp only [Option.bind_some]
  unfold slices_Compact_int_int.f
  rw [if_pos (by rw [List.length_mergeSort]; omega)]
  simp only [Option.bind_some]
  congr 1
  exact asc_eq h1 (asc8_asc _) (fun x => by rw [h2, mem_vin v hv])
theorem okS_var {s : S39} (h : okS s = true) (w : isw s = true) : 0 ≤ s.f1 ∧ s.f1 < 8 := by
  unfold isw at w
  have w := of_decide_eq_true w
  unfold okS sok at h
  rcases w with w | w
  · rw [if_pos w] at h; simp at h; omega
  · rw [if_neg (by omega), if_pos w] at h; simp at h; omega
theorem blk_ok {x : List S39} (b : blk x = true) : ∀ a ∈ x, okS a = true := by
  obtain ⟨h1, _⟩ := blk_scan b
  exact (scan_app x [] 0 0 (by omega) (by omega) (by simpa using h1)).2.2.2
theorem hasv_eq (c : Int) : impl_hasVar.f c = some (decide (c = 1 ∨ c = 2)) := by
  unfold impl_hasVar.f
  by_cases h : c = 1
  · simp [h]
  · rw [if_neg h]; congr 1; rw [Bool.eq_iff_iff]; simp [h]
/-- What the statements may write. -/
def wl (x : List S39) : List Int := (x.filter isw).map (fun s => s.f1)
theorem wl_in {x : List S39} (h : ∀ a ∈ x, okS a = true) : ∀ y ∈ wl x, 0 ≤ y ∧ y < 8 := by
  intro y hy
  unfold wl at hy
  simp only [List.mem_map, List.mem_filter] at hy
  obtain ⟨a, ⟨ha, hw⟩, rfl⟩ := hy
  exact okS_var (h a ha) hw
/-- A list of n bools. -/
def gl (n : Nat) (p : Nat → Bool) : List Bool := (List.range n).map p
theorem gl_len (n : Nat) (p : Nat → Bool) : (gl n p).length = n := by simp [gl]
theorem gl_rd (n : Nat) (p : Nat → Bool) (i : Nat) (h : i < n) : rdOf false (gl n p) (i : Int) = p i := by
  unfold rdOf gl
  rw [Int.toNat_natCast, List.getD_eq_getElem?_getD, List.getElem?_map, List.getElem?_range h]
  rfl
theorem gl_set (n : Nat) (p : Nat → Bool) (i : Nat) : (gl n p).set i true = gl n (fun j => p j || decide (j = i)) := by
  apply List.ext_getElem
  · simp [gl]
  · intro j h1 h2
    rw [List.getElem_set]
    simp only [gl, List.getElem_map, List.getElem_range]
    by_cases e : i = j
    · rw [if_pos e]; simp [e]
    · rw [if_neg e]; simp [show ¬ j = i from fun h => e h.symm]
theorem gl_congr (n : Nat) (p q : Nat → Bool) (h : ∀ i, i < n → p i = q i) : gl n p = gl n q := by
  unfold gl
  apply List.map_congr_left
  intro i hi
  exact h i (List.mem_range.1 hi)
/-- What is written where nothing guards, from place i on. -/
def wn (p : Nat → Bool) : List S39 → Nat → List Int
  | [], _ => []
  | a :: t, i => if isw a = true then (if p i = true then wn p t (i + 1) else a.f1 :: wn p t (i + 1)) else wn p t (i + 1)
theorem wn_sub (p : Nat → Bool) (x : List S39) : ∀ (i : Nat) (y : Int), y ∈ wn p x i → y ∈ wl x := by
  induction x with
  | nil => intro i y h; exact h
  | cons a t ih =>
    intro i y h
    unfold wn at h
    unfold wl at ih ⊢
    rw [List.filter_cons]
    by_cases c : isw a = true
    · rw [if_pos c] at h ⊢
      rw [List.map_cons, List.mem_cons]
      by_cases d : p i = true
      · rw [if_pos d] at h; exact .inr (ih _ _ h)
      · rw [if_neg d, List.mem_cons] at h
        rcases h with h | h
        · exact .inl h
        · exact .inr (ih _ _ h)
    · rw [if_neg c] at h ⊢
      exact ih _ _ h
theorem wn_none (p : Nat → Bool) (x : List S39) : ∀ (i : Nat), (∀ j, i ≤ j → j < i + x.length → p j = false) → wn p x i = wl x := by
  induction x with
  | nil => intro i h; rfl
  | cons a t ih =>
    intro i h
    have e := ih (i + 1) (fun j h1 h2 => h j (by omega) (by simp only [List.length_cons]; omega))
    have h0 := h i (Nat.le_refl _) (by simp only [List.length_cons]; omega)
    unfold wn wl
    rw [List.filter_cons, e]
    by_cases c : isw a = true
    · rw [if_pos c, if_pos c, if_neg (by simp [h0])]; rfl
    · rw [if_neg c, if_neg c]; rfl
theorem iwn (p : Nat → Bool) (u : List S39) : ∀ (k : Nat) (pre x : List S39) (acc : List Int), x = pre ++ u → x.length ≤ 24 → u.length + 1 ≤ k → acc.length ≤ pre.length → (∀ a ∈ x, okS a = true) → (∀ y ∈ acc, 0 ≤ y ∧ y < 8) →
    impl_written_MustWrite.l0 k (gl x.length p) acc x (x.length : Int) (pre.length : Int) = some (asc8 (vin (acc ++ wn p u pre.length))) := by
  induction u with
  | nil =>
    intro k pre x acc hx hz hk ha ho hy
    obtain ⟨k, rfl⟩ : ∃ m, k = m + 1 := ⟨k - 1, by omega⟩
    have hl : x.length = pre.length := by simp [hx]
    simp only [impl_written_MustWrite.l0]
    rw [if_neg (by omega), show acc ++ wn p [] pre.length = acc from List.append_nil acc]
    exact wsort acc hy (by omega)
  | cons a t ih =>
    intro k pre x acc hx hz hk ha ho hy
    simp only [List.length_cons] at hk
    obtain ⟨k, rfl⟩ : ∃ m, k = m + 1 := ⟨k - 1, by omega⟩
    have hl : x.length = pre.length + (t.length + 1) := by simp [hx]
    have hr : rd_T39 x (pre.length : Int) = a := by rw [hx]; exact rd_app pre a t
    have hn : ((pre.length : Int) + 1) = (((pre ++ [a]).length : Nat) : Int) := by simp
    have hp : (pre ++ [a]).length = pre.length + 1 := by simp
    have hg := gl_rd x.length p pre.length (by omega)
    have hgl := gl_len x.length p
    simp only [impl_written_MustWrite.l0, impl_MustWrite_1.f]
    rw [if_pos (by omega), if_pos (by omega), if_pos (by omega), hr, hasv_eq, hg, hgl]
    simp only [Option.bind_some]
    rw [if_pos (show (0 : Int) ≤ (pre.length : Int) by omega), if_pos (show (pre.length : Int) < (x.length : Int) by omega)]
    simp only [Option.bind_some]
    rw [w64 (by omega) (by omega), hn]
    by_cases c : a.f0 = 1 ∨ a.f0 = 2
    · have hw : isw a = true := decide_eq_true c
      have hv := okS_var (ho a (by rw [hx]; simp)) hw
      rw [if_pos (decide_eq_true c)]
      by_cases d : p pre.length = true
      · have e : wn p (a :: t) pre.length = wn p t (pre.length + 1) := by
          have h4 : wn p (a :: t) pre.length = if isw a = true then (if p pre.length = true then wn p t (pre.length + 1) else a.f1 :: wn p t (pre.length + 1)) else wn p t (pre.length + 1) := rfl
          rw [h4, if_pos hw, if_pos d]
        rw [if_neg (by simp [d]), e, ← hp]
        exact ih k (pre ++ [a]) x acc (by simp [hx]) hz (by omega) (by omega) ho hy
      · have e : acc ++ wn p (a :: t) pre.length = (acc ++ [a.f1]) ++ wn p t (pre.length + 1) := by
          have h4 : wn p (a :: t) pre.length = if isw a = true then (if p pre.length = true then wn p t (pre.length + 1) else a.f1 :: wn p t (pre.length + 1)) else wn p t (pre.length + 1) := rfl
          rw [h4, if_pos hw, if_neg d]; simp
        rw [if_pos (by simp [d]), if_pos (by omega), e, ← hp]
        exact ih k (pre ++ [a]) x (acc ++ [a.f1]) (by simp [hx]) hz (by omega) (by simp; omega) ho (by
          intro y h; rw [List.mem_append, List.mem_singleton] at h
          rcases h with h | h
          · exact hy y h
          · rw [h]; exact hv)
    · have hw : ¬ isw a = true := fun h => c (of_decide_eq_true h)
      have e : wn p (a :: t) pre.length = wn p t (pre.length + 1) := by
        have h4 : wn p (a :: t) pre.length = if isw a = true then (if p pre.length = true then wn p t (pre.length + 1) else a.f1 :: wn p t (pre.length + 1)) else wn p t (pre.length + 1) := rfl
        rw [h4, if_neg hw]
      rw [if_neg (fun h => c (of_decide_eq_true h)), e, ← hp]
      exact ih k (pre ++ [a]) x acc (by simp [hx]) hz (by omega) (by omega) ho hy
/-- Where the condition at place q ends. -/
def ee (x : List S39) (q : Nat) : Int := fend (x.drop q) 0 (q : Int)
/-- Whether a condition that begins ahead of place i guards place j. -/
def grd (x : List S39) (i j : Nat) : Bool := (List.range i).any fun q => decide (q ≤ j) && (decide ((rd_T39 x (q : Int)).f0 = 4) && decide ((j : Int) ≤ ee x q))
theorem ee_tells {x : List S39} (b : blk x = true) (q : Nat) (hq : q < x.length) (o : (rd_T39 x (q : Int)).f0 = 4 ∨ (rd_T39 x (q : Int)).f0 = 5) (k : Nat) (hk : 60 ≤ k) : impl_endOf.f k x (q : Int) = some (ee x q) ∧ (q : Int) < ee x q ∧ ee x q < x.length := by
  have hs := blk_scan b
  obtain ⟨pre, a, u, hx, hp, hr⟩ := at_split x (q : Int) (by omega) (by omega)
  rw [hr] at o
  obtain ⟨s, c, r, e1, e2, e3, e4, _⟩ := if_end b hx o
  have hq2 : pre.length = q := by omega
  have hd : x.drop q = a :: u := by rw [hx, ← hq2]; exact List.drop_left' rfl
  have hl : x.length = pre.length + (s.length + (r.length + 1) + 1) := by rw [hx, e1]; simp
  have he : ee x q = (pre.length : Int) + 1 + s.length := by unfold ee; rw [hd, ← hq2]; exact e4
  refine ⟨?_, by omega, by omega⟩
  unfold impl_endOf.f
  rw [← hp, iend (a :: u) k pre x 0 hx (by omega) (by simp only [List.length_cons]; rw [e1]; simp only [List.length_append, List.length_cons]; omega) (Or.inr ⟨by omega, a, u, rfl, o⟩) (by omega), e4, he]
theorem guard_loop {x : List S39} (b : blk x = true) (i : Nat) (hi : i < x.length) (o : (rd_T39 x (i : Int)).f0 = 4) (d : Nat) : ∀ (k c : Nat) (p : Nat → Bool), (ee x i + 1 - (c : Int)) = d → i ≤ c → d + 61 ≤ k →
    impl_MustWrite.l1 k x (i : Int) (c : Int) x (x.length : Int) (i : Int) (gl x.length p) = impl_MustWrite.l0 (k - d - 1) x x (x.length : Int) ((i + 1 : Nat) : Int) (gl x.length (fun j => p j || (decide (c ≤ j) && decide ((j : Int) ≤ ee x i)))) := by
  have hs := blk_scan b
  induction d with
  | zero =>
    intro k c p hd hc hk
    obtain ⟨k, rfl⟩ : ∃ m, k = m + 1 := ⟨k - 1, by omega⟩
    obtain ⟨h1, h2, h3⟩ := ee_tells b i hi (.inl o) k (by omega)
    simp only [impl_MustWrite.l1]
    rw [h1]
    simp only [Option.bind_some]
    rw [if_neg (by omega), w64 (by omega) (by omega)]
    congr 1
    apply gl_congr
    intro j hj
    have : (decide (c ≤ j) && decide ((j : Int) ≤ ee x i)) = false := by simp; omega
    rw [this, Bool.or_false]
  | succ d ih =>
    intro k c p hd hc hk
    obtain ⟨k, rfl⟩ : ∃ m, k = m + 1 := ⟨k - 1, by omega⟩
    obtain ⟨h1, h2, h3⟩ := ee_tells b i hi (.inl o) k (by omega)
    simp only [impl_MustWrite.l1]
    rw [h1]
    simp only [Option.bind_some]
    rw [if_pos (by omega), if_pos (by omega), if_pos (by rw [gl_len]; omega), w64 (by omega) (by omega), Int.toNat_natCast, gl_set, show (c : Int) + 1 = ((c + 1 : Nat) : Int) by omega, ih k (c + 1) _ (by omega) (by omega) (by omega), show k + 1 - (d + 1) - 1 = k - d - 1 by omega]
    congr 1
    apply gl_congr
    intro j hj
    rw [Bool.or_assoc]
    congr 1
    rw [Bool.eq_iff_iff]
    simp only [Bool.or_eq_true, Bool.and_eq_true, decide_eq_true_eq]
    omega
theorem grd_succ (x : List S39) (i j : Nat) : grd x (i + 1) j = (grd x i j || (decide (i ≤ j) && (decide ((rd_T39 x (i : Int)).f0 = 4) && decide ((j : Int) ≤ ee x i)))) := by
  unfold grd
  rw [List.range_succ, List.any_append]
  simp
/-- What a block must write, ascending. -/
def mustv (x : List S39) : List Int := if blk x = true then asc8 (vin (wn (grd x x.length) x 0)) else []
theorem imust_loop {x : List S39} (b : blk x = true) (d : Nat) : ∀ (k i : Nat), x.length - i = d → i ≤ x.length → 26 * d + 61 ≤ k →
    impl_MustWrite.l0 k x x (x.length : Int) (i : Int) (gl x.length (grd x i)) = some (asc8 (vin (wn (grd x x.length) x 0))) := by
  have hs := blk_scan b
  induction d with
  | zero =>
    intro k i hd hi hk
    obtain ⟨k, rfl⟩ : ∃ m, k = m + 1 := ⟨k - 1, by omega⟩
    have hi2 : i = x.length := by omega
    subst hi2
    simp only [impl_MustWrite.l0]
    rw [if_neg (by omega)]
    unfold impl_written_MustWrite.f
    have h := iwn (grd x x.length) x k [] x [] rfl hs.2 (by omega) (by simp) (blk_ok b) (by simp)
    rw [show (([] : List S39).length : Int) = 0 from rfl] at h
    rw [h]
    rfl
  | succ d ih =>
    intro k i hd hi hk
    obtain ⟨k, rfl⟩ : ∃ m, k = m + 1 := ⟨k - 1, by omega⟩
    simp only [impl_MustWrite.l0]
    rw [if_pos (by omega), if_pos (by omega), if_pos (by omega)]
    by_cases o : (rd_T39 x (i : Int)).f0 = 4
    · obtain ⟨_, h2, h3⟩ := ee_tells b i (by omega) (.inl o) 60 (by omega)
      rw [if_pos o, guard_loop b i (by omega) o (ee x i + 1 - (i : Int)).toNat k i (grd x i) (by omega) (by omega) (by omega)]
      rw [gl_congr x.length _ (grd x (i + 1)) (fun j hj => by rw [grd_succ, decide_eq_true o, Bool.true_and])]
      exact ih _ (i + 1) (by omega) (by omega) (by omega)
    · rw [if_neg o, w64 (by omega) (by omega), show (i : Int) + 1 = ((i + 1 : Nat) : Int) by omega]
      rw [gl_congr x.length (grd x i) (grd x (i + 1)) (fun j hj => by rw [grd_succ, decide_eq_false o, Bool.false_and, Bool.and_false, Bool.or_false])]
      exact ih _ (i + 1) (by omega) (by omega) (by omega)
theorem imust (x : List S39) (hz : x.length ≤ 140737488351232) (k : Nat) (hk : 2 * x.length + 700 ≤ k) : impl_MustWrite.f k x = some (mustv x) := by
  unfold impl_MustWrite.f mustv
  rw [iblock x hz k (by omega)]
  simp only [Option.bind_some]
  by_cases b : blk x = true
  · have hs := blk_scan b
    rw [if_pos b, if_pos b, if_pos (by omega), if_pos (by omega), Int.toNat_natCast]
    have h := imust_loop b x.length k 0 (by omega) (by omega) (by omega)
    have e : List.replicate x.length false = gl x.length (grd x 0) := by
      apply List.ext_getElem
      · simp [gl]
      · intro j h1 h2
        simp [gl, grd]
    rw [e]
    exact h
  · rw [if_neg b, if_neg b]
theorem slist_loop (p : Nat → Bool) (d : Nat) : ∀ (k : Nat) (acc : List Int) (i : Nat), i + d = 8 → d < k → acc.length ≤ i →
    spec_l07List.l0 k (gl 8 p) acc (i : Int) = some (acc ++ ((List.range' i d).filter p).map (fun i : Nat => (i : Int))) := by
  induction d with
  | zero =>
    intro k acc i hi hk hl
    obtain ⟨k, rfl⟩ : ∃ m, k = m + 1 := ⟨k - 1, by omega⟩
    simp only [spec_l07List.l0]
    rw [if_neg (by rw [gl_len]; omega)]
    simp
  | succ d ih =>
    intro k acc i hi hk hl
    obtain ⟨k, rfl⟩ : ∃ m, k = m + 1 := ⟨k - 1, by omega⟩
    simp only [spec_l07List.l0]
    rw [if_pos (by rw [gl_len]; omega), if_pos (by omega), gl_rd 8 p i (by omega), w64 (n := (i : Int) + 1) (by omega) (by omega), show (i : Int) + 1 = ((i + 1 : Nat) : Int) by omega, List.range'_succ, List.filter_cons]
    by_cases h : p i = true
    · rw [if_pos h, if_pos (by omega), if_pos h, ih k _ (i + 1) (by omega) (by omega) (by simp; omega)]
      simp
    · rw [if_neg h, if_neg h, ih k _ (i + 1) (by omega) (by omega) (by omega)]
theorem slist (p : Nat → Bool) (k : Nat) (hk : 9 ≤ k) : spec_l07List.f k (gl 8 p) = some (asc8 p) := by
  unfold spec_l07List.f asc8
  rw [List.range_eq_range']
  have h := slist_loop p 8 k [] 0 (by omega) (by omega) (by simp)
  exact h
theorem swrites_eq (c v n o a b : Int) : spec_l07Writes.f c v n o a b = some (decide (c = 1 ∨ c = 2)) := by
  unfold spec_l07Writes.f
  by_cases h : c = 1
  · simp [h]
  · rw [if_neg h]; congr 1; rw [Bool.eq_iff_iff]; simp [h]
theorem asc8_congr {p q : Nat → Bool} (h : ∀ i, i < 8 → p i = q i) : asc8 p = asc8 q := by
  unfold asc8
  congr 1
  apply List.filter_congr
  intro i hi
  exact h i (List.mem_range.1 hi)
theorem gl_false : List.replicate 8 false = gl 8 (fun _ => false) := rfl
theorem gl_var (p : Nat → Bool) (v : Int) (h0 : 0 ≤ v) : (gl 8 p).set v.toNat true = gl 8 (fun j => p j || decide ((j : Int) = v)) := by
  rw [gl_set]
  apply gl_congr
  intro j _
  congr 1
  rw [Bool.eq_iff_iff]
  simp only [decide_eq_true_eq]
  omega
theorem fend_pre (s1 : List S39) : ∀ (s2 t : List S39) (d p : Int), 1 ≤ d → fend (s1 ++ (s2 ++ t)) d p = p + (s1.length : Int) + (s2.length : Int) → 1 ≤ d + tot s1 := by
  induction s1 with
  | nil => intro s2 t d p h1 _; have : tot ([] : List S39) = 0 := rfl; omega
  | cons a s ih =>
    intro s2 t d p h1 h2
    have hf : fend ((a :: s) ++ (s2 ++ t)) d p = if a.f0 = 6 ∧ d = 1 then p else fend (s ++ (s2 ++ t)) (d + del a) (p + 1) := rfl
    have ht : tot (a :: s) = del a + tot s := rfl
    rw [hf] at h2
    simp only [List.length_cons] at h2
    by_cases c : a.f0 = 6 ∧ d = 1
    · rw [if_pos c] at h2; omega
    · rw [if_neg c] at h2
      have hd : del a = if a.f0 = 4 ∨ a.f0 = 5 then 1 else if a.f0 = 6 then -1 else 0 := rfl
      have hde : 1 ≤ d + del a := by
        by_cases c6 : a.f0 = 6
        · have := del_in a; omega
        · rw [hd]; split
          · omega
          · omega
      have := ih s2 t (d + del a) (p + 1) hde (by omega)
      omega
theorem fend_le (t : List S39) : ∀ (d p : Int) (c : S39) (r : List S39), c.f0 = 6 → 1 ≤ d → d + tot t ≤ 1 → fend (t ++ c :: r) d p ≤ p + (t.length : Int) := by
  induction t with
  | nil =>
    intro d p c r h6 h1 h2
    have : tot ([] : List S39) = 0 := rfl
    have hf : fend ([] ++ c :: r) d p = if c.f0 = 6 ∧ d = 1 then p else fend r (d + del c) (p + 1) := rfl
    rw [hf, if_pos ⟨h6, by omega⟩]; simp
  | cons a s ih =>
    intro d p c r h6 h1 h2
    have hf : fend ((a :: s) ++ c :: r) d p = if a.f0 = 6 ∧ d = 1 then p else fend (s ++ c :: r) (d + del a) (p + 1) := rfl
    have ht : tot (a :: s) = del a + tot s := rfl
    rw [hf]
    simp only [List.length_cons]
    by_cases e : a.f0 = 6 ∧ d = 1
    · rw [if_pos e]; omega
    · rw [if_neg e]
      have hd : del a = if a.f0 = 4 ∨ a.f0 = 5 then 1 else if a.f0 = 6 then -1 else 0 := rfl
      have hde : 1 ≤ d + del a := by
        by_cases c6 : a.f0 = 6
        · have := del_in a; omega
        · rw [hd]; split
          · omega
          · omega
      have := ih (d + del a) (p + 1) c r h6 hde (by omega)
      omega
/-- A condition inside another one ends inside it. -/
theorem nest {x : List S39} (b : blk x = true) (i q : Nat) (hi : i < x.length) (o : (rd_T39 x (i : Int)).f0 = 4 ∨ (rd_T39 x (i : Int)).f0 = 5) (h1 : i < q) (h2 : (q : Int) ≤ ee x i) (oq : (rd_T39 x (q : Int)).f0 = 4) : ee x q ≤ ee x i := by
  obtain ⟨pre, a, u, hx, hp, hr⟩ := at_split x (i : Int) (by omega) (by omega)
  rw [hr] at o
  obtain ⟨s, c, r, e1, e2, e3, e4, e5⟩ := if_end b hx o
  have hq2 : pre.length = i := by omega
  have hd : x.drop i = a :: u := by rw [hx, ← hq2]; exact List.drop_left' rfl
  have he : ee x i = (pre.length : Int) + 1 + s.length := by unfold ee; rw [hd, ← hq2]; exact e4
  have hx2 : x = (pre ++ a :: s) ++ c :: r := by rw [hx, e1]; simp
  have hl2 : (pre ++ a :: s).length = pre.length + (s.length + 1) := by simp
  by_cases ce : (q : Int) = ee x i
  · have h3 : (q : Int) = ((pre ++ a :: s).length : Int) := by omega
    rw [h3, hx2, rd_app] at oq
    omega
  · have hz : q - (i + 1) < s.length := by omega
    obtain ⟨pre2, b2, t2, f1, f2, f3⟩ := at_split s ((q - (i + 1) : Nat) : Int) (by omega) (by omega)
    have hx3 : x = (pre ++ a :: pre2) ++ b2 :: (t2 ++ c :: r) := by rw [hx2, f1]; simp
    have hl3 : (pre ++ a :: pre2).length = q := by simp; omega
    have hl4 : s.length = pre2.length + (t2.length + 1) := by rw [f1]; simp
    have hrb : rd_T39 x (q : Int) = b2 := by rw [hx3, ← hl3]; exact rd_app _ b2 _
    rw [hrb] at oq
    have hdq : x.drop q = b2 :: (t2 ++ c :: r) := by rw [hx3, ← hl3]; exact List.drop_left' rfl
    have hdel : del b2 = 1 := by unfold del; rw [if_pos (.inl oq)]
    have h0 : fend (b2 :: (t2 ++ c :: r)) 0 (q : Int) = if b2.f0 = 6 ∧ (0 : Int) = 1 then (q : Int) else fend (t2 ++ c :: r) (0 + del b2) ((q : Int) + 1) := rfl
    have hpre : 1 ≤ 1 + tot pre2 := fend_pre pre2 (b2 :: t2) (c :: r) 1 ((pre.length : Int) + 1) (by omega) (by
      have : u = pre2 ++ ((b2 :: t2) ++ c :: r) := by rw [e1, f1]; simp
      rw [← this, e5, hl4]; simp only [List.length_cons]; push_cast; omega)
    have hts : tot s = tot pre2 + (del b2 + tot t2) := by
      rw [f1, tot_app]
      have h4 : tot (b2 :: t2) = del b2 + tot t2 := rfl
      rw [h4]
    have hle := fend_le t2 1 ((q : Int) + 1) c r e2 (by omega) (by omega)
    have heq : ee x q = fend (t2 ++ c :: r) 1 ((q : Int) + 1) := by
      unfold ee
      rw [hdq, h0, if_neg (by omega), hdel]
      rfl
    omega
theorem wn_skip (p : Nat → Bool) (m : Nat) : ∀ (u : List S39) (i : Nat), (∀ j, i ≤ j → j < i + m → p j = true) → m ≤ u.length → wn p u i = wn p (u.drop m) (i + m) := by
  induction m with
  | zero => intro u i _ _; rfl
  | succ m ih =>
    intro u i h hl
    cases u with
    | nil => simp only [List.length_nil] at hl; omega
    | cons a t =>
      simp only [List.length_cons] at hl
      have h4 : wn p (a :: t) i = if isw a = true then (if p i = true then wn p t (i + 1) else a.f1 :: wn p t (i + 1)) else wn p t (i + 1) := rfl
      rw [h4, if_pos (h i (by omega) (by omega)), List.drop_succ_cons, show i + (m + 1) = (i + 1) + m by omega, ← ih t (i + 1) (fun j h1 h2 => h j (by omega) (by omega)) (by omega)]
      split <;> rfl
theorem send_ee {x : List S39} (b : blk x = true) (q : Nat) (hq : q < x.length) (o : (rd_T39 x (q : Int)).f0 = 4 ∨ (rd_T39 x (q : Int)).f0 = 5) (k : Nat) (hk : 60 ≤ k) : spec_l05End.f k x (q : Int) = some (ee x q) ∧ (q : Int) < ee x q ∧ ee x q < x.length := by
  have hs := blk_scan b
  obtain ⟨pre, a, u, hx, hp, hr⟩ := at_split x (q : Int) (by omega) (by omega)
  rw [hr] at o
  obtain ⟨s, c, r, e1, e2, e3, e4, _⟩ := if_end b hx o
  have hq2 : pre.length = q := by omega
  have hd : x.drop q = a :: u := by rw [hx, ← hq2]; exact List.drop_left' rfl
  have hl : x.length = pre.length + (s.length + (r.length + 1) + 1) := by rw [hx, e1]; simp
  have he : ee x q = (pre.length : Int) + 1 + s.length := by unfold ee; rw [hd, ← hq2]; exact e4
  refine ⟨?_, by omega, by omega⟩
  unfold spec_l05End.f
  rw [← hp, send (a :: u) k pre x 0 hx (by omega) (by simp only [List.length_cons]; rw [e1]; simp only [List.length_append, List.length_cons]; omega) (Or.inr ⟨by omega, a, u, rfl, o⟩) (by omega), e4, he]
theorem grd_true (x : List S39) (i j q : Nat) (h1 : q < i) (h2 : q ≤ j) (h3 : (rd_T39 x (q : Int)).f0 = 4) (h4 : (j : Int) ≤ ee x q) : grd x i j = true := by
  unfold grd
  rw [List.any_eq_true]
  exact ⟨q, List.mem_range.2 h1, by simp only [Bool.and_eq_true, decide_eq_true_eq]; exact ⟨h2, h3, h4⟩⟩
theorem grd_false (x : List S39) (i j : Nat) (h : ∀ q, q < i → q ≤ j → (rd_T39 x (q : Int)).f0 = 4 → ee x q < j) : grd x i j = false := by
  unfold grd
  rw [List.any_eq_false]
  intro q hq
  simp only [Bool.and_eq_true, decide_eq_true_eq, not_and]
  intro h2 h3 h4
  have := h q (List.mem_range.1 hq) h2 h3
  omega
theorem smust_loop {x : List S39} (b : blk x = true) (d : Nat) : ∀ (k i : Nat) (p : Nat → Bool), x.length - i ≤ d → i ≤ x.length → (∀ q, q < i → (rd_T39 x (q : Int)).f0 = 4 → ee x q < i) → 2 * d + 100 ≤ k →
    spec_MustWrite.l0 k x (gl 8 p) (i : Int) = some (asc8 (fun j => p j || vin (wn (grd x x.length) (x.drop i) i) j)) := by
  have hs := blk_scan b
  induction d with
  | zero =>
    intro k i p hd hi hq hk
    obtain ⟨k, rfl⟩ : ∃ m, k = m + 2 := ⟨k - 2, by omega⟩
    simp only [spec_MustWrite.l0, spec_MustWrite.j1]
    rw [if_neg (by omega), if_neg (by simp), slist p _ (by omega), List.drop_eq_nil_of_le (by omega)]
    simp only [Option.bind_some]
    congr 1
    apply asc8_congr
    intro j _
    simp [vin, wn]
  | succ d ih =>
    intro k i p hd hi hq hk
    obtain ⟨k, rfl⟩ : ∃ m, k = m + 2 := ⟨k - 2, by omega⟩
    by_cases cl : i = x.length
    · simp only [spec_MustWrite.l0, spec_MustWrite.j1]
      rw [if_neg (by omega), if_neg (by simp), slist p _ (by omega), List.drop_eq_nil_of_le (by omega)]
      simp only [Option.bind_some]
      congr 1
      apply asc8_congr
      intro j _
      simp [vin, wn]
    · simp only [spec_MustWrite.l0, spec_MustWrite.j1]
      rw [if_pos (by omega), sblock x (by omega) _ (by omega)]
      simp only [Option.bind_some]
      rw [if_pos b, if_pos (by omega), if_pos (by omega)]
      obtain ⟨pre, a, u, hx, hp, hr⟩ := at_split x (i : Int) (by omega) (by omega)
      have hq2 : pre.length = i := by omega
      have hdr : x.drop i = a :: u := by rw [hx, ← hq2]; exact List.drop_left' rfl
      have hdr2 : x.drop (i + 1) = u := by
        have : x = (pre ++ [a]) ++ u := by rw [hx]; simp
        rw [this]; exact List.drop_left' (by simp; omega)
      by_cases o : (rd_T39 x (i : Int)).f0 = 4
      · obtain ⟨h1, h2, h3⟩ := send_ee b i (by omega) (.inl o) k (by omega)
        rw [if_pos o, h1]
        simp only [Option.bind_some]
        obtain ⟨m, hm⟩ : ∃ m : Nat, ee x i + 1 = ((i + m : Nat) : Int) := ⟨(ee x i + 1 - i).toNat, by omega⟩
        rw [w64 (by omega) (by omega), hm, ih k (i + m) p (by omega) (by omega) (fun q h4 h5 => by
          by_cases c1 : q < i
          · have := hq q c1 h5; omega
          · by_cases c2 : q = i
            · rw [c2]; omega
            · have := nest b i q (by omega) (.inl o) (by omega) (by omega) h5; omega) (by omega)]
        rw [wn_skip (grd x x.length) m (x.drop i) i (fun j h4 h5 => grd_true x _ _ i (by omega) h4 o (by omega)) (by rw [List.length_drop]; omega), List.drop_drop]
      · have hg : grd x x.length i = false := grd_false x _ _ (fun q _ h2 h3 => by
          by_cases c : q = i
          · rw [c] at h3; exact absurd h3 o
          · exact hq q (by omega) h3)
        rw [if_neg o, swrites_eq]
        simp only [Option.bind_some]
        rw [hr] at o ⊢
        rw [w64 (by omega) (by omega), show (i : Int) + 1 = ((i + 1 : Nat) : Int) by omega]
        have h4 : wn (grd x x.length) (x.drop i) i = if isw a = true then (if grd x x.length i = true then wn (grd x x.length) u (i + 1) else a.f1 :: wn (grd x x.length) u (i + 1)) else wn (grd x x.length) u (i + 1) := by rw [hdr]; rfl
        have hnext : ∀ q, q < i + 1 → (rd_T39 x (q : Int)).f0 = 4 → ee x q < ((i + 1 : Nat) : Int) := fun q h5 h6 => by
          by_cases c : q = i
          · rw [c, hr] at h6; exact absurd h6 o
          · have := hq q (by omega) h6; omega
        by_cases c : a.f0 = 1 ∨ a.f0 = 2
        · have hw : isw a = true := decide_eq_true c
          have hv := okS_var (blk_ok b a (by rw [hx]; simp)) hw
          rw [if_pos (decide_eq_true c), if_pos hv.1, if_pos (by rw [gl_len]; exact hv.2), gl_var p _ hv.1, ih k (i + 1) _ (by omega) (by omega) hnext (by omega), h4, if_pos hw, if_neg (by simp [hg]), hdr2]
          congr 1
          apply asc8_congr
          intro j _
          rw [Bool.or_assoc]
          congr 1
          unfold vin
          rw [Bool.eq_iff_iff]
          simp only [Bool.or_eq_true, decide_eq_true_eq, List.mem_cons]
        · have hw : ¬ isw a = true := fun h => c (of_decide_eq_true h)
          rw [if_neg (fun h => c (of_decide_eq_true h)), ih k (i + 1) p (by omega) (by omega) hnext (by omega), h4, if_neg hw, hdr2]
theorem smust (x : List S39) (hz : x.length ≤ 1048576) (k : Nat) (hk : 2 * x.length + 200 ≤ k) : spec_MustWrite.f k x = some (mustv x) := by
  unfold spec_MustWrite.f mustv
  rw [if_pos (by decide), gl_false]
  by_cases b : blk x = true
  · rw [if_pos b]
    have h := smust_loop b x.length k 0 (fun _ => false) (by omega) (by omega) (fun q h => absurd h (by omega)) (by omega)
    rw [show ((0 : Nat) : Int) = 0 from rfl] at h
    rw [h]
    congr 1
  · obtain ⟨k, rfl⟩ : ∃ m, k = m + 2 := ⟨k - 2, by omega⟩
    rw [if_neg b]
    simp only [spec_MustWrite.l0, spec_MustWrite.j1]
    by_cases c : (0 : Int) < (x.length : Int)
    · rw [if_pos c, sblock x (by omega) _ (by omega)]
      simp only [Option.bind_some]
      rw [if_neg b, slist _ _ (by omega)]
      rfl
    · rw [if_neg c, if_neg (by simp), slist _ _ (by omega)]
      first | done | rfl
theorem smark_loop (d : Nat) : ∀ (k : Nat) (x : List S39) (a i : Int), 0 ≤ i → (x.length : Int) - i = d → d < k → (x.length : Int) ≤ 1048576 → 0 ≤ a → a + 6 * d ≤ 1000000000000 →
    ∃ y, laws_markStmtS.l0 k x a i = some (a + 6 * d, y) := by
  induction d with
  | zero =>
    intro k x a i h0 hd hk sz a0 a1
    obtain ⟨k, rfl⟩ : ∃ m, k = m + 1 := ⟨k - 1, by omega⟩
    refine ⟨x, ?_⟩
    simp only [laws_markStmtS.l0]
    rw [if_neg (by omega)]
    simp
  | succ d ih =>
    intro k x a i h0 hd hk sz a0 a1
    obtain ⟨k, rfl⟩ : ∃ m, k = m + 1 := ⟨k - 1, by omega⟩
    simp only [laws_markStmtS.l0, Option.bind_some]
    rw [if_pos (by omega), if_pos h0]
    rw [w64 (n := a + 1) (by omega) (by omega), w64 (n := a + 1 + 1) (by omega) (by omega), w64 (n := a + 1 + 1 + 1) (by omega) (by omega), w64 (n := a + 1 + 1 + 1 + 1) (by omega) (by omega), w64 (n := a + 1 + 1 + 1 + 1 + 1) (by omega) (by omega), w64 (n := a + 1 + 1 + 1 + 1 + 1 + 1) (by omega) (by omega), w64 (n := i + 1) (by omega) (by omega)]
    have hz : ∀ x' : List S39, x'.length = x.length → ∃ y, laws_markStmtS.l0 k x' (a + 1 + 1 + 1 + 1 + 1 + 1) (i + 1) = some (a + 6 * ((d + 1 : Nat) : Int), y) := fun x' e => by
      obtain ⟨y, e2⟩ := ih k x' (a + 1 + 1 + 1 + 1 + 1 + 1) (i + 1) (by omega) (by omega) (by omega) (by omega) (by omega) (by omega)
      exact ⟨y, by rw [e2]; congr 2; omega⟩
    exact hz _ (by simp only [List.length_set])
theorem smark_tells (l : List S39) (sz : (l.length : Int) ≤ 1048576) (k : Nat) (hk : l.length < k) : ∃ y, laws_markStmtS.f k l 1 = some (1 + 6 * (l.length : Int), y) := by
  obtain ⟨y, e⟩ := smark_loop l.length k l 1 0 (by omega) (by omega) hk sz (by omega) (by omega)
  exact ⟨y, e⟩
theorem mustv_len (x : List S39) : (mustv x).length ≤ 8 := by
  unfold mustv
  by_cases b : blk x = true
  · rw [if_pos b]; exact asc8_len _
  · rw [if_neg b]; simp
theorem FnExactMustWrite : laws_FnExactMustWrite.Pure := by
  intro l hl _
  obtain ⟨t, et, ht⟩ := sz_tells l hl
  refine ⟨2 * l.length + 800, ?_⟩
  unfold laws_FnExactMustWrite.f
  rw [et]
  simp only [Option.bind_some]
  by_cases c : t < 0
  · rw [if_pos c]
  · rw [if_neg c]
    have sz : (l.length : Int) ≤ 1048576 := by omega
    obtain ⟨x, hx⟩ : ∃ x, x = l.map cnv := ⟨_, rfl⟩
    have hlen : x.length = l.length := by rw [hx, List.length_map]
    have hto : ∀ k, l.length < k → laws_toStmtS.f k l = some x := by rw [hx]; exact toStmt_tells l sz
    clear hx
    have hv := mustv_len x
    have hE := eqInt_self (mustv x) (by omega)
    obtain ⟨y, hM, hH, _⟩ := mark_tells (mustv x) (by omega) 1 (by omega) (by omega)
    obtain ⟨z, hS⟩ := smark_tells x (by omega) (2 * l.length + 800) (by omega)
    have n1 : ¬ ((1 : Int) + ((mustv x).length : Int) < 0) := by omega
    have n2 : ¬ ((1 : Int) + 6 * (x.length : Int) < 0) := by omega
    rw [hto _ (by omega)]
    simp only [Option.bind_some]
    rw [smust x (by omega) _ (by omega), imust x (by omega) _ (by omega)]
    simp only [Option.bind_some]
    rw [hE _ (by omega), eqStmt_self x (by omega) _ (by omega), hS]
    simp only [Option.bind_some, if_true, if_neg n2, Bool.not_true]
    have e2 : 2 * l.length + 800 = (2 * l.length + 799) + 1 := by omega
    rw [e2]
    simp only [laws_FnExactMustWrite.j0, Bool.false_eq_true, if_false]
    rw [hM _ (by omega)]
    simp only [Option.bind_some]
    rw [hH _ (by omega)]
    simp only [Option.bind_some, if_neg n1, if_true]
    rw [hto _ (by omega)]
    simp only [Option.bind_some]
    rw [imust x (by omega) _ (by omega)]
    simp only [Option.bind_some]
    rw [hE _ (by omega)]
    simp only [Option.bind_some, if_true]

end Go.Proofs.Ytlhcofkandeepaa.Pure
