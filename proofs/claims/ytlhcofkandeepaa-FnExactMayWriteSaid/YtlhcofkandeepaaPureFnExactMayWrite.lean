/- The program's MayWrite and the reference's return the same for all statements, each time in memory of its own, and leave the statements as they were; no condition. -/
import Derived.Test.YtlhcofkandeepaaPFnExactMayWritex10
import Derived.Lib.SlicesCompact
namespace Go.Proofs.Ytlhcofkandeepaa.Pure
open Go.RowKit Go.Proofs.Ytlhcofkandeepaa.PFnExactMayWrite Go.Proofs.YtlhcofkandeepaaW.PrintWords Go.Proofs.YtlhcofkandeepaaW.PrintLast
set_option linter.unusedVariables false
set_option linter.unusedSimpArgs false

theorem w64 {n : Int} (h1 : -9223372036854775808 ≤ n) (h2 : n ≤ 9223372036854775807) : wrap64 n = n := by unfold wrap64; omega
theorem w64_in (n : Int) : -9223372036854775808 ≤ wrap64 n ∧ wrap64 n ≤ 9223372036854775807 := by unfold wrap64; omega
theorem wf64 {n : Int} (h : (Lit.int .i64 n).wf = true) : -9223372036854775808 ≤ n ∧ n ≤ 9223372036854775807 := by
  simp only [Lit.wf, IntKind.min, IntKind.max, IntKind.signed, IntKind.bits, Bool.and_eq_true, decide_eq_true_eq, if_true] at h
  omega
theorem wfu8 {n : Int} (h : (Lit.int .u8 n).wf = true) : 0 ≤ n ∧ n ≤ 255 := by
  simp [Lit.wf, IntKind.min, IntKind.max, IntKind.signed, IntKind.bits] at h
  omega
theorem and_in (x : Int) (m : Nat) (hm : m < 9223372036854775808) : 0 ≤ Go.bits .and .i64 x (m : Int) ∧ Go.bits .and .i64 x (m : Int) ≤ m := by
  have h1 : (BitVec.ofInt 64 x &&& BitVec.ofInt 64 (m : Int)).toNat ≤ m := by
    rw [BitVec.toNat_and]
    refine Nat.le_trans Nat.and_le_right ?_
    rw [BitVec.ofInt_natCast, BitVec.toNat_ofNat]
    exact Nat.mod_le _ _
  have h2 : Go.bits .and .i64 x (m : Int) = IntKind.i64.wrap (((BitVec.ofInt 64 x &&& BitVec.ofInt 64 (m : Int)).toNat : Nat) : Int) := rfl
  rw [h2, Go.IntKind.wrap_i64]
  omega
theorem and255 (x : Int) : 0 ≤ Go.bits .and .i64 x 255 ∧ Go.bits .and .i64 x 255 ≤ 255 := and_in x 255 (by decide)
theorem tmod_in (x n : Int) (h0 : 0 ≤ x) (h : 1 ≤ n) : 0 ≤ Int.tmod x n ∧ Int.tmod x n < n := ⟨Int.tmod_nonneg _ h0, Int.tmod_lt_of_pos _ (by omega)⟩
theorem in_eq (a b c : Int) : spec_l01In.f a b c = some (decide (b ≤ a ∧ a ≤ c)) := by
  unfold spec_l01In.f
  by_cases h : a ≥ b
  · rw [if_pos h]; simp; omega
  · rw [if_neg h]; simp; omega
theorem within_eq (a b c : Int) : impl_within.f a b c = some (decide (b ≤ a ∧ a ≤ c)) := by
  unfold impl_within.f
  by_cases h : a ≥ b
  · rw [if_pos h]; simp; omega
  · rw [if_neg h]; simp; omega
/-- A valid expression. -/
def eok (o a b : Int) : Bool := decide (1 ≤ o ∧ o ≤ 7) && (decide (-8 ≤ a ∧ a ≤ 999) && decide (-8 ≤ b ∧ b ≤ 999))
theorem iexpr (o a b : Int) : impl_ExprOk.f o a b = some (eok o a b) := by
  unfold impl_ExprOk.f impl_OperandOk.f eok
  simp only [within_eq, Option.bind_some]
  cases decide (1 ≤ o ∧ o ≤ 7) <;> cases decide (-8 ≤ a ∧ a ≤ 999) <;> simp
theorem eok_in {o a b : Int} (h : eok o a b = true) : (1 ≤ o ∧ o ≤ 7) ∧ (-8 ≤ a ∧ a ≤ 999) ∧ (-8 ≤ b ∧ b ≤ 999) := by
  unfold eok at h
  simp only [Bool.and_eq_true, decide_eq_true_eq] at h
  exact h
theorem sexpr (o a b : Int) : spec_ExprOk.f o a b = some (eok o a b) := by
  unfold spec_ExprOk.f spec_OperandOk.f eok
  simp only [in_eq, Option.bind_some]
  cases decide (1 ≤ o ∧ o ≤ 7) <;> cases decide (-8 ≤ a ∧ a ≤ 999) <;> simp
/-- A valid statement. -/
def zok (o a b : Int) : Bool := decide (o = 0) && (decide (a = 0) && decide (b = 0))
def sok (c v n o a b : Int) : Bool :=
  if c = 1 then decide (0 ≤ v ∧ v ≤ 7) && (decide (n = 0) && eok o a b)
  else if c = 2 then decide (0 ≤ v ∧ v ≤ 7) && (decide (0 ≤ n ∧ n ≤ 3) && zok o a b)
  else if c = 3 then decide (v = 0) && (decide (n = 0) && eok o a b)
  else if c = 4 then decide (v = 0) && (decide (n = 0) && eok o a b)
  else if c = 5 then decide (v = 0) && (decide (1 ≤ n ∧ n ≤ 5) && zok o a b)
  else if c = 6 then decide (v = 0) && (decide (n = 0) && zok o a b)
  else false
theorem hasVar_eq (c : Int) : impl_hasVar.f c = some (decide (c = 1 ∨ c = 2)) := by
  unfold impl_hasVar.f
  by_cases h : c = 1
  · rw [if_pos h]; simp [h]
  · rw [if_neg h]; simp [h]; rfl
theorem hasExpr_eq (c : Int) : impl_hasExpr.f c = some (decide (c = 1 ∨ c = 3 ∨ c = 4)) := by
  unfold impl_hasExpr.f
  by_cases h : c = 1
  · rw [if_pos h]; simp [h]
  · rw [if_neg h]
    by_cases h2 : c = 3
    · rw [if_pos h2]; simp [h2]
    · rw [if_neg h2]; simp [h, h2]; rfl
theorem isVar_eq (v : Int) : impl_isVar.f v = some (decide (0 ≤ v ∧ v ≤ 7)) := by
  unfold impl_isVar.f; rw [within_eq]; rfl
theorem isSensor_eq (v : Int) : impl_isSensor.f v = some (decide (0 ≤ v ∧ v ≤ 3)) := by
  unfold impl_isSensor.f; rw [within_eq]; rfl
theorem istmt (c v n o a b : Int) (k : Nat) (hk : 2 ≤ k) : impl_StmtOk.f k c v n o a b = some (sok c v n o a b) := by
  obtain ⟨k, rfl⟩ : ∃ m, k = m + 2 := ⟨k - 2, by omega⟩
  unfold impl_StmtOk.f sok zok
  simp only [within_eq, hasVar_eq, isVar_eq, hasExpr_eq, isSensor_eq, iexpr, Option.bind_some, impl_StmtOk.j0, impl_StmtOk.j1]
  by_cases h1 : c = 1
  · subst h1
    cases decide (0 ≤ v ∧ v ≤ 7) <;> cases eok o a b <;> by_cases hn : n = 0 <;> simp [hn]
  · by_cases h2 : c = 2
    · subst h2
      cases decide (0 ≤ v ∧ v ≤ 7) <;> cases decide (0 ≤ n ∧ n ≤ 3) <;> by_cases ho : o = 0 <;> by_cases ha : a = 0 <;> by_cases hb : b = 0 <;> simp [ho, ha, hb]
    · by_cases h3 : c = 3
      · subst h3
        cases eok o a b <;> by_cases hn : n = 0 <;> by_cases hv : v = 0 <;> simp [hn, hv]
      · by_cases h4 : c = 4
        · subst h4
          cases eok o a b <;> by_cases hn : n = 0 <;> by_cases hv : v = 0 <;> simp [hn, hv]
        · by_cases h5 : c = 5
          · subst h5
            cases decide (1 ≤ n ∧ n ≤ 5) <;> by_cases hv : v = 0 <;> by_cases ho : o = 0 <;> by_cases ha : a = 0 <;> by_cases hb : b = 0 <;> simp [hv, ho, ha, hb]
          · by_cases h6 : c = 6
            · subst h6
              by_cases hn : n = 0 <;> by_cases hv : v = 0 <;> by_cases ho : o = 0 <;> by_cases ha : a = 0 <;> by_cases hb : b = 0 <;> simp [hn, hv, ho, ha, hb]
            · have hw : ¬ (1 ≤ c ∧ c ≤ 6) := by omega
              simp [h1, h2, h3, h4, h5, h6, hw]
theorem sstmt (c v n o a b : Int) (k : Nat) (hk : 2 ≤ k) : spec_StmtOk.f k c v n o a b = some (sok c v n o a b) := by
  obtain ⟨k, rfl⟩ : ∃ m, k = m + 2 := ⟨k - 2, by omega⟩
  unfold spec_StmtOk.f spec_l04Plain.f sok zok
  simp only [in_eq, sexpr, Option.bind_some, spec_StmtOk.j0]
  by_cases h1 : c = 1
  · subst h1
    cases decide (0 ≤ v ∧ v ≤ 7) <;> cases eok o a b <;> by_cases hn : n = 0 <;> simp [hn]
  · by_cases h2 : c = 2
    · subst h2
      cases decide (0 ≤ v ∧ v ≤ 7) <;> cases decide (0 ≤ n ∧ n ≤ 3) <;> by_cases ho : o = 0 <;> by_cases ha : a = 0 <;> by_cases hb : b = 0 <;> simp [ho, ha, hb]
    · by_cases h3 : c = 3
      · subst h3
        cases eok o a b <;> by_cases hn : n = 0 <;> by_cases hv : v = 0 <;> simp [hn, hv]
      · by_cases h4 : c = 4
        · subst h4
          cases eok o a b <;> by_cases hn : n = 0 <;> by_cases hv : v = 0 <;> simp [hn, hv]
        · by_cases h5 : c = 5
          · subst h5
            cases decide (1 ≤ n ∧ n ≤ 5) <;> by_cases hv : v = 0 <;> by_cases ho : o = 0 <;> by_cases ha : a = 0 <;> by_cases hb : b = 0 <;> simp [hv, ho, ha, hb]
          · by_cases h6 : c = 6
            · subst h6
              by_cases hn : n = 0 <;> by_cases hv : v = 0 <;> by_cases ho : o = 0 <;> by_cases ha : a = 0 <;> by_cases hb : b = 0 <;> simp [hn, hv, ho, ha, hb]
            · by_cases hn : n = 0 <;> by_cases hv : v = 0 <;> by_cases ho : o = 0 <;> by_cases ha : a = 0 <;> by_cases hb : b = 0 <;> simp [h1, h2, h3, h4, h5, h6, hn, hv, ho, ha, hb]
theorem rd_app (pre : List S39) (a : S39) (t : List S39) : rd_T39 (pre ++ a :: t) (pre.length : Int) = a := by
  unfold rd_T39
  simp [List.getD]
def okS (s : S39) : Bool := sok s.f0 s.f1 s.f2 s.f3.f0 s.f3.f1 s.f3.f2
def opn (s : S39) : Bool := decide (s.f0 = 4 ∨ s.f0 = 5)
def del (s : S39) : Int := if s.f0 = 4 ∨ s.f0 = 5 then 1 else if s.f0 = 6 then -1 else 0
theorem del_in (s : S39) : -1 ≤ del s ∧ del s ≤ 1 := by unfold del; split <;> (try split) <;> omega
def scan : List S39 → Int → Option Int
  | [], d => some d
  | s :: t, d => if okS s = true then (if 0 ≤ d + del s ∧ d + del s ≤ 3 then scan t (d + del s) else none) else none
def fin (o : Option Int) (n : Nat) : Bool := decide (o = some 0) && decide (n ≤ 24)
/-- Whether the statements are a valid block. -/
def blk (l : List S39) : Bool := fin (scan l 0) l.length
theorem opening_eq (c : Int) : impl_isOpening.f c = some (decide (c = 4 ∨ c = 5)) := by
  unfold impl_isOpening.f
  by_cases h : c = 4
  · simp [h]
  · rw [if_neg h]; congr 1; rw [Bool.eq_iff_iff]; simp [h]
theorem iscan (suf : List S39) : ∀ (k : Nat) (pre x : List S39) (d : Int), x = pre ++ suf → x.length ≤ 140737488351232 → 2 * suf.length + 4 ≤ k → 0 ≤ d → d ≤ 3 →
    impl_BlockOk.l0 k x d x (x.length : Int) (pre.length : Int) = some (fin (scan suf d) x.length) := by
  induction suf with
  | nil =>
    intro k pre x d hx hz hk d0 d1
    obtain ⟨k, rfl⟩ : ∃ m, k = m + 1 := ⟨k - 1, by omega⟩
    have hl : x.length = pre.length := by simp [hx]
    unfold impl_BlockOk.l0
    rw [if_neg (by omega)]
    unfold scan fin
    by_cases c : d = 0
    · rw [if_pos c, c]; congr 1; simp; omega
    · rw [if_neg c]; simp [c]
  | cons a t ih =>
    intro k pre x d hx hz hk d0 d1
    simp only [List.length_cons] at hk
    obtain ⟨k, rfl⟩ : ∃ m, k = m + 2 := ⟨k - 2, by omega⟩
    have hl : x.length = pre.length + (t.length + 1) := by simp [hx]
    have hr : rd_T39 x (pre.length : Int) = a := by rw [hx]; exact rd_app pre a t
    have hn : ((pre.length : Int) + 1) = (((pre ++ [a]).length : Nat) : Int) := by simp
    unfold impl_BlockOk.l0
    rw [if_pos (by omega), if_pos (by omega), if_pos (by omega)]
    simp only [hr]
    rw [istmt _ _ _ _ _ _ _ (by omega)]
    simp only [Option.bind_some]
    have hs : ∀ e, scan (a :: t) e = if okS a = true then (if 0 ≤ e + del a ∧ e + del a ≤ 3 then scan t (e + del a) else none) else none := fun e => rfl
    rw [hs]
    by_cases ok : okS a = true
    · rw [if_pos ok]
      unfold okS at ok
      rw [if_pos ok, opening_eq]
      simp only [Option.bind_some, decide_eq_true_eq]
      have step : ∀ e : Int, 0 ≤ e → e ≤ 3 → impl_BlockOk.l0 k x e x (x.length : Int) (wrap64 ((pre.length : Int) + 1)) = some (fin (scan t e) x.length) := by
        intro e e0 e1
        rw [w64 (by omega) (by omega), hn]
        exact ih k (pre ++ [a]) x e (by simp [hx]) hz (by omega) e0 e1
      by_cases o : a.f0 = 4 ∨ a.f0 = 5
      · have hd : del a = 1 := by unfold del; rw [if_pos o]
        rw [if_pos o, hd, w64 (n := d + 1) (by omega) (by omega)]
        unfold impl_BlockOk.j1
        rw [if_neg (by omega), if_neg (by omega)]
        by_cases c : d + 1 > 3
        · rw [if_pos c, if_neg (by omega)]; simp [fin]
        · rw [if_neg c, if_pos (by omega)]
          exact step _ (by omega) (by omega)
      · rw [if_neg o]
        unfold impl_BlockOk.j1
        by_cases c6 : a.f0 = 6
        · have hd : del a = -1 := by unfold del; rw [if_neg o, if_pos c6]
          rw [if_pos c6, hd, w64 (n := d - 1) (by omega) (by omega)]
          by_cases c : d - 1 < 0
          · rw [if_pos c, if_neg (by omega)]; simp [fin]
          · rw [if_neg c, if_neg (by omega), if_pos (by omega)]
            exact step _ (by omega) (by omega)
        · have hd : del a = 0 := by unfold del; rw [if_neg o, if_neg c6]
          rw [if_neg c6, hd, if_neg (by omega), if_neg (by omega), if_pos (by omega), show d + 0 = d by omega]
          exact step _ (by omega) (by omega)
    · rw [if_neg ok]
      unfold okS at ok
      rw [if_neg ok]
      simp [fin]
theorem iblock (l : List S39) (hz : l.length ≤ 140737488351232) (k : Nat) (hk : 2 * l.length + 4 ≤ k) : impl_BlockOk.f k l = some (blk l) :=
  iscan l k [] l 0 rfl hz hk (by omega) (by omega)
theorem sscan (suf : List S39) : ∀ (k : Nat) (pre x : List S39) (d : Int), x = pre ++ suf → x.length ≤ 140737488351232 → 2 * suf.length + 4 ≤ k → 0 ≤ d → d ≤ 3 →
    spec_BlockOk.l0 k x d (pre.length : Int) = some (fin (scan suf d) x.length) := by
  induction suf with
  | nil =>
    intro k pre x d hx hz hk d0 d1
    obtain ⟨k, rfl⟩ : ∃ m, k = m + 1 := ⟨k - 1, by omega⟩
    have hl : x.length = pre.length := by simp [hx]
    unfold spec_BlockOk.l0
    rw [if_neg (by omega)]
    unfold scan fin
    by_cases c : d = 0
    · rw [if_pos c, c]; congr 1; simp; omega
    · rw [if_neg c]; simp [c]
  | cons a t ih =>
    intro k pre x d hx hz hk d0 d1
    simp only [List.length_cons] at hk
    obtain ⟨k, rfl⟩ : ∃ m, k = m + 2 := ⟨k - 2, by omega⟩
    have hl : x.length = pre.length + (t.length + 1) := by simp [hx]
    have hr : rd_T39 x (pre.length : Int) = a := by rw [hx]; exact rd_app pre a t
    have hn : ((pre.length : Int) + 1) = (((pre ++ [a]).length : Nat) : Int) := by simp
    unfold spec_BlockOk.l0
    rw [if_pos (by omega), if_pos (by omega)]
    simp only [hr]
    rw [sstmt _ _ _ _ _ _ _ (by omega)]
    simp only [Option.bind_some]
    have hs : ∀ e, scan (a :: t) e = if okS a = true then (if 0 ≤ e + del a ∧ e + del a ≤ 3 then scan t (e + del a) else none) else none := fun e => rfl
    rw [hs]
    by_cases ok : okS a = true
    · rw [if_pos ok]
      unfold okS at ok
      rw [if_pos ok]
      have step : ∀ e : Int, 0 ≤ e → e ≤ 3 → spec_BlockOk.l0 k x e (wrap64 ((pre.length : Int) + 1)) = some (fin (scan t e) x.length) := by
        intro e e0 e1
        rw [w64 (by omega) (by omega), hn]
        exact ih k (pre ++ [a]) x e (by simp [hx]) hz (by omega) e0 e1
      have hj : ∀ b : Bool, b = decide (a.f0 = 4 ∨ a.f0 = 5) → spec_BlockOk.j1 (k + 1) x d (pre.length : Int) a.f0 b = some (fin (if 0 ≤ d + del a ∧ d + del a ≤ 3 then scan t (d + del a) else none) x.length) := by
        intro b hb
        unfold spec_BlockOk.j1
        by_cases o : a.f0 = 4 ∨ a.f0 = 5
        · have hd : del a = 1 := by unfold del; rw [if_pos o]
          rw [if_pos (by rw [hb]; exact decide_eq_true o), hd, w64 (n := d + 1) (by omega) (by omega), in_eq]
          simp only [Option.bind_some, decide_eq_true_eq]
          by_cases c : 0 ≤ d + 1 ∧ d + 1 ≤ 3
          · rw [if_pos c, if_pos c]; exact step _ c.1 c.2
          · rw [if_neg c, if_neg c]; simp [fin]
        · rw [if_neg (by rw [hb]; simp; omega)]
          by_cases c6 : a.f0 = 6
          · have hd : del a = -1 := by unfold del; rw [if_neg o, if_pos c6]
            rw [if_pos c6, hd, w64 (n := d - 1) (by omega) (by omega), in_eq, show d + -1 = d - 1 by omega]
            simp only [Option.bind_some, decide_eq_true_eq]
            by_cases c : 0 ≤ d - 1 ∧ d - 1 ≤ 3
            · rw [if_pos c, if_pos c]; exact step _ c.1 c.2
            · rw [if_neg c, if_neg c]; simp [fin]
          · have hd : del a = 0 := by unfold del; rw [if_neg o, if_neg c6]
            rw [if_neg c6, hd, in_eq, show d + 0 = d by omega]
            simp only [Option.bind_some, decide_eq_true_eq]
            rw [if_pos ⟨d0, d1⟩, if_pos ⟨d0, d1⟩]; exact step _ d0 d1
      by_cases c4 : a.f0 = 4
      · rw [if_pos c4]
        exact hj _ (by simp [c4])
      · rw [if_neg c4]
        exact hj _ (by rw [Bool.eq_iff_iff]; simp [c4])
    · rw [if_neg ok]
      unfold okS at ok
      rw [if_neg ok]
      simp [fin]
theorem sblock (l : List S39) (hz : l.length ≤ 140737488351232) (k : Nat) (hk : 2 * l.length + 4 ≤ k) : spec_BlockOk.f k l = some (blk l) :=
  sscan l k [] l 0 rfl hz hk (by omega) (by omega)
/-- Where the statement that is opened ends: depth d at place p. -/
def fend : List S39 → Int → Int → Int
  | [], _, _ => -1
  | a :: t, d, p => if a.f0 = 6 ∧ d = 1 then p else fend t (d + del a) (p + 1)
theorem at_split (x : List S39) (i : Int) (h0 : 0 ≤ i) (h1 : i < (x.length : Int)) : ∃ pre a t, x = pre ++ a :: t ∧ (pre.length : Int) = i ∧ rd_T39 x i = a := by
  have h : i.toNat < x.length := by omega
  refine ⟨x.take i.toNat, x[i.toNat], x.drop (i.toNat + 1), ?_, ?_, ?_⟩
  · rw [List.getElem_cons_drop, List.take_append_drop]
  · rw [List.length_take]; omega
  · unfold rd_T39
    rw [List.getD_eq_getElem?_getD, List.getElem?_eq_getElem h]
    rfl
def tot : List S39 → Int
  | [] => 0
  | a :: s => del a + tot s
def mnp : List S39 → Int
  | [] => 0
  | a :: s => if del a + mnp s < 0 then del a + mnp s else 0
theorem mnp_le (s : List S39) : mnp s ≤ 0 ∧ mnp s ≤ tot s := by
  induction s with
  | nil => exact ⟨Int.le_refl _, Int.le_refl _⟩
  | cons a s ih => unfold mnp tot; split <;> omega
theorem tot_in (s : List S39) : -(s.length : Int) ≤ tot s ∧ tot s ≤ s.length := by
  induction s with
  | nil => exact ⟨by simp [tot], by simp [tot]⟩
  | cons a s ih => have := del_in a; unfold tot; simp only [List.length_cons]; omega
theorem tot_app (s r : List S39) : tot (s ++ r) = tot s + tot r := by
  induction s with
  | nil => simp [tot]
  | cons a s ih =>
    have h : tot (a :: s ++ r) = del a + tot (s ++ r) := rfl
    have h2 : tot (a :: s) = del a + tot s := rfl
    omega
theorem fend_app (s : List S39) : ∀ (r : List S39) (d p : Int), 1 ≤ d →
    (mnp s + d ≤ 0 → p ≤ fend (s ++ r) d p ∧ fend (s ++ r) d p < p + s.length) ∧ (1 ≤ mnp s + d → fend (s ++ r) d p = fend r (d + tot s) (p + s.length) ∧ 1 ≤ d + tot s) := by
  induction s with
  | nil =>
    intro r d p h
    refine ⟨fun c => ?_, fun c => ?_⟩
    · unfold mnp at c; omega
    · have e : tot ([] : List S39) = 0 := rfl
      rw [e]
      simp; exact h
  | cons a s ih =>
    intro r d p h
    have hm := mnp_le s
    have hf : fend (a :: s ++ r) d p = if a.f0 = 6 ∧ d = 1 then p else fend (s ++ r) (d + del a) (p + 1) := rfl
    have h1 : mnp (a :: s) = if del a + mnp s < 0 then del a + mnp s else 0 := rfl
    have h2 : tot (a :: s) = del a + tot s := rfl
    have hd : del a = if a.f0 = 4 ∨ a.f0 = 5 then 1 else if a.f0 = 6 then -1 else 0 := rfl
    have hdi := del_in a
    rw [hf, h1, h2]
    simp only [List.length_cons]
    by_cases c : a.f0 = 6 ∧ d = 1
    · rw [if_pos c]
      rw [if_neg (by omega), if_pos c.1] at hd
      rw [if_pos (by omega)]
      exact ⟨fun _ => ⟨by omega, by omega⟩, fun _ => by omega⟩
    · rw [if_neg c]
      have hde : 1 ≤ d + del a := by
        by_cases c6 : a.f0 = 6
        · omega
        · rw [hd]; split
          · omega
          · omega
      obtain ⟨i1, i2⟩ := ih r (d + del a) (p + 1) hde
      refine ⟨fun k => ?_, fun k => ?_⟩
      · have := i1 (by revert k; split <;> omega)
        push_cast
        omega
      · have := i2 (by revert k; split <;> omega)
        rw [this.1, show d + del a + tot s = d + (del a + tot s) by omega, show p + 1 + (s.length : Int) = p + ((s.length + 1 : Nat) : Int) by push_cast; omega]
        exact ⟨rfl, by omega⟩
theorem scan_app (s : List S39) : ∀ (r : List S39) (d e : Int), 0 ≤ d → d ≤ 3 → scan (s ++ r) d = some e → 0 ≤ d + mnp s ∧ d + tot s ≤ 3 ∧ scan r (d + tot s) = some e ∧ (∀ a ∈ s, okS a = true) := by
  induction s with
  | nil =>
    intro r d e h0 h1 h
    have e1 : tot ([] : List S39) = 0 := rfl
    have e2 : mnp ([] : List S39) = 0 := rfl
    rw [e1, e2, show d + 0 = d by omega]
    exact ⟨h0, h1, h, fun a ha => by simp at ha⟩
  | cons a s ih =>
    intro r d e h0 h1 h
    have hs : scan (a :: s ++ r) d = if okS a = true then (if 0 ≤ d + del a ∧ d + del a ≤ 3 then scan (s ++ r) (d + del a) else none) else none := rfl
    rw [hs] at h
    by_cases ok : okS a = true
    · rw [if_pos ok] at h
      by_cases c : 0 ≤ d + del a ∧ d + del a ≤ 3
      · rw [if_pos c] at h
        obtain ⟨i1, i2, i3, i4⟩ := ih r _ e c.1 c.2 h
        have h1 : mnp (a :: s) = if del a + mnp s < 0 then del a + mnp s else 0 := rfl
        have h2 : tot (a :: s) = del a + tot s := rfl
        rw [h1, h2]
        refine ⟨by split <;> omega, by omega, by rw [show d + (del a + tot s) = d + del a + tot s by omega]; exact i3, ?_⟩
        intro b hb
        rcases List.mem_cons.mp hb with rfl | hb
        · exact ok
        · exact i4 b hb
      · rw [if_neg c] at h; exact absurd h (by simp)
    · rw [if_neg ok] at h; exact absurd h (by simp)
theorem blk_scan {x : List S39} (h : blk x = true) : scan x 0 = some 0 ∧ x.length ≤ 24 := by
  unfold blk fin at h
  simpa using h
theorem blk_tot {x : List S39} (h : blk x = true) : tot x = 0 := by
  obtain ⟨h1, _⟩ := blk_scan h
  have h2 := scan_app x [] 0 0 (by omega) (by omega) (by simpa using h1)
  have h3 := h2.2.2.1
  simp only [scan, Option.some.injEq] at h3
  omega
theorem asc_eq {a b : List Int} (ha : a.Pairwise (· < ·)) (hb : b.Pairwise (· < ·)) (h : ∀ x, x ∈ a ↔ x ∈ b) : a = b := by
  have na : a.Nodup := ha.imp (fun hlt => Int.ne_of_lt hlt)
  have nb : b.Nodup := hb.imp (fun hlt => Int.ne_of_lt hlt)
  have hp : a.Perm b := (List.perm_ext_iff_of_nodup na nb).2 h
  exact hp.eq_of_pairwise (fun x y _ _ h1 h2 => by omega) ha hb
theorem compactUpTo_asc (d : Array Int) (hs : ∀ i j, i ≤ j → j < d.size → d[i]! ≤ d[j]!) (m : Nat) (hm : m ≤ d.size) :
    (Lib.compactUpTo d m).Pairwise (· < ·) ∧ (∀ x, x ∈ Lib.compactUpTo d m ↔ ∃ j, j < m ∧ d[j]! = x) := by
  induction m with
  | zero => exact ⟨by simp [Lib.compactUpTo], by simp [Lib.compactUpTo]⟩
  | succ m ih =>
    obtain ⟨h1, h2⟩ := ih (by omega)
    rw [Lib.compactUpTo_succ]
    cases hk : Lib.keeps d m with
    | true =>
      simp only [if_true]
      refine ⟨?_, fun x => ?_⟩
      · rw [List.pairwise_append]
        refine ⟨h1, by simp, fun x hx y hy => ?_⟩
        rw [List.mem_singleton] at hy
        subst hy
        obtain ⟨j, hj, rfl⟩ := (h2 x).1 hx
        have hle1 := hs j (m - 1) (by omega) (by omega)
        have hle2 := hs (m - 1) m (by omega) (by omega)
        have hne : m = 0 ∨ d[m]! ≠ d[m - 1]! := by
          unfold Lib.keeps at hk
          exact of_decide_eq_true hk
        rcases hne with h | h
        · omega
        · omega
      · rw [List.mem_append, h2, List.mem_singleton]
        constructor
        · rintro (⟨j, hj, rfl⟩ | rfl)
          · exact ⟨j, by omega, rfl⟩
          · exact ⟨m, by omega, rfl⟩
        · rintro ⟨j, hj, rfl⟩
          by_cases e : j = m
          · subst e; exact .inr rfl
          · exact .inl ⟨j, by omega, rfl⟩
    | false =>
      simp only [Bool.false_eq_true, if_false, List.append_nil]
      refine ⟨h1, fun x => ?_⟩
      rw [h2]
      have hd : ¬ (m = 0 ∨ d[m]! ≠ d[m - 1]!) := by
        unfold Lib.keeps at hk
        exact of_decide_eq_false hk
      have hm0 : m ≠ 0 := fun e => hd (.inl e)
      have he : d[m]! = d[m - 1]! := by
        by_cases e : d[m]! = d[m - 1]!
        · exact e
        · exact absurd (.inr e) hd
      constructor
      · rintro ⟨j, hj, rfl⟩
        exact ⟨j, by omega, rfl⟩
      · rintro ⟨j, hj, rfl⟩
        by_cases e : j = m
        · subst e; exact ⟨j - 1, by omega, he.symm⟩
        · exact ⟨j, by omega, rfl⟩
/-- Sorted and compacted: each element once, ascending. -/
theorem sortc (l : List Int) : (Lib.compact (l.mergeSort fun x y => decide (x ≤ y))).Pairwise (· < ·) ∧ ∀ x, x ∈ Lib.compact (l.mergeSort fun x y => decide (x ≤ y)) ↔ x ∈ l := by
  have hp : (l.mergeSort fun x y => decide (x ≤ y)).Perm l := List.mergeSort_perm _ _
  have hs := List.pairwise_mergeSort (le := fun (x y : Int) => decide (x ≤ y)) (by intro a b c h1 h2; simp at *; omega) (by intro a b; simp; omega) l
  generalize (l.mergeSort fun x y => decide (x ≤ y)) = s at hp hs
  have hidx : ∀ i j, i ≤ j → j < s.toArray.size → s.toArray[i]! ≤ s.toArray[j]! := by
    intro i j hij hj
    have hj' : j < s.length := by simpa using hj
    have e1 : s.toArray[i]! = s[i]'(by omega) := by simp [getElem!_pos, show i < s.length by omega]
    have e2 : s.toArray[j]! = s[j]'hj' := by simp [getElem!_pos, hj']
    rw [e1, e2]
    by_cases e : i = j
    · subst e; exact Int.le_refl _
    · have := List.pairwise_iff_getElem.1 hs i j (by omega) hj' (by omega)
      exact of_decide_eq_true this
  obtain ⟨h1, h2⟩ := compactUpTo_asc s.toArray hidx s.length (by simp)
  refine ⟨h1, fun x => ?_⟩
  rw [← hp.mem_iff]
  unfold Lib.compact
  rw [h2]
  constructor
  · rintro ⟨j, hj, rfl⟩
    have e1 : s.toArray[j]! = s[j]'hj := by simp [getElem!_pos, hj]
    rw [e1]
    exact List.getElem_mem hj
  · intro hx
    obtain ⟨j, hj, rfl⟩ := List.mem_iff_getElem.1 hx
    exact ⟨j, hj, by simp [getElem!_pos, hj]⟩
theorem rd_get (xs : List Int) (i : Int) (h0 : 0 ≤ i) (h1 : i < (xs.length : Int)) : xs[i.toNat]? = some (rd xs i) := by
  have h : i.toNat < xs.length := by omega
  unfold Go.Proofs.YtlhcofkandeepaaW.PrintWords.rd
  rw [List.getD_eq_getElem?_getD, List.getElem?_eq_getElem h]
  rfl
theorem eqInt_loop (l : List Int) (sz : (l.length : Int) ≤ 140737488351232) (d : Nat) : ∀ (k : Nat) (i : Int), 0 ≤ i → i ≤ l.length → (l.length : Int) - i = d → d < k → laws_eqIntS.l0 k l l i = some true := by
  induction d with
  | zero =>
    intro k i h0 h1 hd hk
    obtain ⟨k, rfl⟩ : ∃ m, k = m + 1 := ⟨k - 1, by omega⟩
    simp only [laws_eqIntS.l0]
    rw [if_neg (by omega)]
  | succ d ih =>
    intro k i h0 h1 hd hk
    obtain ⟨k, rfl⟩ : ∃ m, k = m + 1 := ⟨k - 1, by omega⟩
    simp only [laws_eqIntS.l0]
    rw [if_pos (by omega), if_pos h0, if_pos (by omega), if_pos trivial, w64 (n := i + 1) (by omega) (by omega)]
    exact ih k (i + 1) (by omega) (by omega) (by omega) (by omega)
theorem eqInt_self (l : List Int) (sz : (l.length : Int) ≤ 140737488351232) : ∀ k, l.length < k → laws_eqIntS.f k l l = some true := by
  intro k hk
  unfold laws_eqIntS.f
  rw [if_pos rfl]
  exact eqInt_loop l sz l.length k 0 (by omega) (by omega) (by omega) hk
theorem mark_loop (d : Nat) : ∀ (k : Nat) (x : List Int) (a i : Int), 0 ≤ i → i ≤ x.length → (x.length : Int) - i = d → d < k → (x.length : Int) ≤ 140737488351232 → 0 ≤ a → a + d ≤ 1407374883512320 →
    ∃ y, laws_markIntS.l0 k x a i = some (a + d, y) ∧ y.length = x.length ∧ (∀ j : Nat, (j : Int) < i → y[j]? = x[j]?) ∧ ∀ j : Nat, i ≤ (j : Int) → (j : Int) < x.length → y[j]? = some (a + ((j : Int) - i)) := by
  induction d with
  | zero =>
    intro k x a i h0 h1 hd hk sz a0 a1
    obtain ⟨k, rfl⟩ : ∃ m, k = m + 1 := ⟨k - 1, by omega⟩
    refine ⟨x, ?_, rfl, fun _ _ => rfl, fun j h2 h3 => by omega⟩
    simp only [laws_markIntS.l0]
    rw [if_neg (by omega)]
    simp
  | succ d ih =>
    intro k x a i h0 h1 hd hk sz a0 a1
    obtain ⟨k, rfl⟩ : ∃ m, k = m + 1 := ⟨k - 1, by omega⟩
    have hl : (x.set i.toNat a).length = x.length := List.length_set
    obtain ⟨y, e, hy, hlo, hhi⟩ := ih k (x.set i.toNat a) (a + 1) (i + 1) (by omega) (by omega) (by omega) (by omega) (by omega) (by omega) (by omega)
    refine ⟨y, ?_, by omega, fun j hj => ?_, fun j hj hj2 => ?_⟩
    · simp only [laws_markIntS.l0]
      rw [if_pos (by omega), if_pos h0, w64 (n := a + 1) (by omega) (by omega), w64 (n := i + 1) (by omega) (by omega), e]
      congr 2
      omega
    · rw [hlo j (by omega), List.getElem?_set_ne (by omega)]
    · by_cases e2 : (j : Int) = i
      · have e3 : j = i.toNat := by omega
        rw [hlo j (by omega), e3, List.getElem?_set_self (by omega)]
        congr 1
        omega
      · rw [hhi j (by omega) (by omega)]
        congr 1
        omega
theorem held_loop (x : List Int) (sz : (x.length : Int) ≤ 140737488351232) (d : Nat) : ∀ (k : Nat) (a i : Int), 0 ≤ i → i ≤ x.length → (x.length : Int) - i = d → d < k → 0 ≤ a → a + d ≤ 1407374883512320 →
    (∀ j : Nat, i ≤ (j : Int) → (j : Int) < x.length → x[j]? = some (a + ((j : Int) - i))) → laws_heldIntS.l0 k x a i = some (a + d) := by
  induction d with
  | zero =>
    intro k a i h0 h1 hd hk a0 a1 hx
    obtain ⟨k, rfl⟩ : ∃ m, k = m + 1 := ⟨k - 1, by omega⟩
    simp only [laws_heldIntS.l0]
    rw [if_neg (by omega)]
    simp
  | succ d ih =>
    intro k a i h0 h1 hd hk a0 a1 hx
    obtain ⟨k, rfl⟩ : ∃ m, k = m + 1 := ⟨k - 1, by omega⟩
    have hr : rd x i = a := by
      have h2 := rd_get x i h0 (by omega)
      rw [hx i.toNat (by omega) (by omega)] at h2
      have h3 := Option.some.inj h2
      omega
    simp only [laws_heldIntS.l0]
    rw [if_pos (by omega), if_pos h0, if_pos hr, w64 (n := a + 1) (by omega) (by omega), w64 (n := i + 1) (by omega) (by omega)]
    rw [ih k (a + 1) (i + 1) (by omega) (by omega) (by omega) (by omega) (by omega) (by omega) (fun j h2 h3 => by rw [hx j (by omega) h3]; congr 1; omega)]
    congr 1
    omega
theorem mark_tells (l : List Int) (sz : (l.length : Int) ≤ 140737488351232) (a : Int) (a0 : 0 ≤ a) (a1 : a ≤ 140737488351232) : ∃ y, (∀ k, l.length < k → laws_markIntS.f k l a = some (a + l.length, y)) ∧ (∀ k, l.length < k → laws_heldIntS.f k y a = some (a + l.length)) ∧ y.length = l.length := by
  obtain ⟨y, e, hy, _, hhi⟩ := mark_loop l.length (l.length + 1) l a 0 (by omega) (by omega) (by omega) (by omega) sz a0 (by omega)
  refine ⟨y, fun k hk => ?_, fun k hk => ?_, hy⟩
  · exact at_rounds (fun k => laws_markIntS.mono l a k) (by omega : l.length + 1 ≤ k) e
  · unfold laws_heldIntS.f
    exact held_loop y (by omega) l.length k a 0 (by omega) (by omega) (by omega) hk a0 (by omega) (fun j h2 h3 => by rw [hhi j h2 (by omega)])
def cnv (s : S73) : S39 := ⟨s.f0, s.f1, s.f2, ⟨s.f3.f0, s.f3.f1, s.f3.f2⟩⟩
theorem rdc (xs : List S73) (i : Int) (h0 : 0 ≤ i) (h1 : i < (xs.length : Int)) : (xs.map cnv)[i.toNat]? = some (cnv (rd_T73 xs i)) := by
  have h : i.toNat < xs.length := by omega
  unfold rd_T73
  rw [List.getElem?_map, List.getD_eq_getElem?_getD, List.getElem?_eq_getElem h]
  rfl
theorem toStmt_loop (l : List S73) (sz : (l.length : Int) ≤ 140737488351232) (d : Nat) : ∀ (k : Nat) (x : List S39) (i : Int), 0 ≤ i → i ≤ l.length → (l.length : Int) - i = d → d < k → x.length = l.length → (∀ j : Nat, (j : Int) < i → x[j]? = (l.map cnv)[j]?) →
    laws_toStmtS.l0 k l x i = some (l.map cnv) := by
  induction d with
  | zero =>
    intro k x i h0 h1 hd hk hl hx
    obtain ⟨k, rfl⟩ : ∃ m, k = m + 1 := ⟨k - 1, by omega⟩
    simp only [laws_toStmtS.l0]
    rw [if_neg (by omega)]
    congr 1
    apply List.ext_getElem?
    intro j
    by_cases hj : (j : Int) < i
    · exact hx j hj
    · rw [List.getElem?_eq_none (by omega), List.getElem?_eq_none (by simp; omega)]
  | succ d ih =>
    intro k x i h0 h1 hd hk hl hx
    obtain ⟨k, rfl⟩ : ∃ m, k = m + 1 := ⟨k - 1, by omega⟩
    simp only [laws_toStmtS.l0, laws_toStmt.f, laws_toExpr.f, Option.bind_some]
    rw [if_pos (by omega), if_pos h0, if_pos (by omega), w64 (n := i + 1) (by omega) (by omega)]
    refine ih k _ (i + 1) (by omega) (by omega) (by omega) (by omega) (by simp [hl]) ?_
    intro j hj
    by_cases e : (j : Int) = i
    · have e2 : j = i.toNat := by omega
      subst e2
      rw [rdc l i h0 (by omega), List.getElem?_set_self (by omega)]
      rfl
    · rw [List.getElem?_set_ne (by omega)]
      exact hx j (by omega)
theorem toStmt_tells (l : List S73) (h : (l.length : Int) ≤ 1048576) : ∀ k, l.length < k → laws_toStmtS.f k l = some (l.map cnv) := by
  intro k hk
  unfold laws_toStmtS.f
  rw [if_pos (by omega), if_pos (by omega)]
  exact toStmt_loop l (by omega) l.length k _ 0 (by omega) (by omega) (by omega) hk (by simp) (fun j hj => by omega)
theorem eqStmt_loop (l : List S39) (sz : (l.length : Int) ≤ 140737488351232) (d : Nat) : ∀ (k : Nat) (i : Int), 0 ≤ i → i ≤ l.length → (l.length : Int) - i = d → d < k → laws_eqStmtS.l0 k l l i = some true := by
  induction d with
  | zero =>
    intro k i h0 h1 hd hk
    obtain ⟨k, rfl⟩ : ∃ m, k = m + 1 := ⟨k - 1, by omega⟩
    simp only [laws_eqStmtS.l0]
    rw [if_neg (by omega)]
  | succ d ih =>
    intro k i h0 h1 hd hk
    obtain ⟨k, rfl⟩ : ∃ m, k = m + 1 := ⟨k - 1, by omega⟩
    simp only [laws_eqStmtS.l0, laws_eqStmt.f, laws_eqExpr.f, if_true, Option.bind_some]
    rw [if_pos (by omega), if_pos h0, if_pos (by omega), w64 (n := i + 1) (by omega) (by omega)]
    exact ih k (i + 1) (by omega) (by omega) (by omega) (by omega)
theorem eqStmt_self (l : List S39) (sz : (l.length : Int) ≤ 140737488351232) : ∀ k, l.length < k → laws_eqStmtS.f k l l = some true := by
  intro k hk
  unfold laws_eqStmtS.f
  rw [if_pos rfl]
  exact eqStmt_loop l sz l.length k 0 (by omega) (by omega) (by omega) hk
theorem sz_tells (l : List S73) (hl : l.length ≤ maxLen) : ∃ t, laws_szStmtS.f l 1048576 = some t ∧ (t < 0 ∨ (l.length : Int) ≤ 1048576) := by
  have hm : (maxLen : Int) ≤ 9223372036854775807 := by decide
  unfold laws_szStmtS.f
  rw [w64 (by omega) (by omega)]
  by_cases c : 1048576 - (l.length : Int) < 0
  · rw [if_pos c]; exact ⟨-1, rfl, Or.inl (by omega)⟩
  · rw [if_neg c]; exact ⟨_, rfl, Or.inr (by omega)⟩
/-- A statement that writes a variable. -/
def isw (s : S39) : Bool := decide (s.f0 = 1 ∨ s.f0 = 2)
/-- The numbers below 8 of which something is true, ascending. -/
def asc8 (p : Nat → Bool) : List Int := ((List.range 8).filter p).map (fun i : Nat => (i : Int))
def vin (v : List Int) (i : Nat) : Bool := decide ((i : Int) ∈ v)
theorem asc8_asc (p : Nat → Bool) : (asc8 p).Pairwise (· < ·) := by
  unfold asc8
  rw [List.pairwise_map]
  exact (List.pairwise_lt_range.filter p).imp (fun h => by omega)
theorem mem_asc8 (p : Nat → Bool) (x : Int) : x ∈ asc8 p ↔ 0 ≤ x ∧ x < 8 ∧ p x.toNat = true := by
  unfold asc8
  simp only [List.mem_map, List.mem_filter, List.mem_range]
  constructor
  · rintro ⟨i, ⟨hi, hh⟩, rfl⟩
    exact ⟨by omega, by omega, by simpa using hh⟩
  · rintro ⟨h0, h1, hh⟩
    exact ⟨x.toNat, ⟨by omega, hh⟩, by omega⟩
theorem asc8_len (p : Nat → Bool) : (asc8 p).length ≤ 8 := by
  unfold asc8
  rw [List.length_map]
  exact Nat.le_trans (List.length_filter_le _ _) (by simp)
theorem mem_vin (v : List Int) (hv : ∀ x ∈ v, 0 ≤ x ∧ x < 8) (x : Int) : x ∈ asc8 (vin v) ↔ x ∈ v := by
  rw [mem_asc8]
  unfold vin
  constructor
  · rintro ⟨a, b, c⟩
    rw [Int.toNat_of_nonneg a] at c
    exact of_decide_eq_true c
  · intro hx
    obtain ⟨a, b⟩ := hv x hx
    exact ⟨a, b, by rw [Int.toNat_of_nonneg a]; exact decide_eq_true hx⟩
theorem wsort (v : List Int) (hv : ∀ x ∈ v, 0 ≤ x ∧ x < 8) (hl : v.length ≤ 1000) : ((slices_Sort_int_int.f v).bind fun t => ((slices_Compact_int_int.f t).bind fun t => some t)) = some (asc8 (vin v)) := by
  obtain ⟨h1, h2⟩ := sortc v
  unfold slices_Sort_int_int.f
  rw [if_pos (by omega)]
  simp only [Option.bind_some]
  unfold slices_Compact_int_int.f
  rw [if_pos (by rw [List.length_mergeSort]; omega)]
  simp only [Option.bind_some]
  congr 1
  exact asc_eq h1 (asc8_asc _) (fun x => by rw [h2, mem_vin v hv])
theorem okS_var {s : S39} (h : okS s = true) (w : isw s = true) : 0 ≤ s.f1 ∧ s.f1 < 8 := by
  unfold isw at w
  have w := of_decide_eq_true w
  unfold okS sok at h
  rcases w with w | w
  · rw [if_pos w] at h; simp at h; omega
  · rw [if_neg (by omega), if_pos w] at h; simp at h; omega
theorem blk_ok {x : List S39} (b : blk x = true) : ∀ a ∈ x, okS a = true := by
  obtain ⟨h1, _⟩ := blk_scan b
  exact (scan_app x [] 0 0 (by omega) (by omega) (by simpa using h1)).2.2.2
theorem hasv_eq (c : Int) : impl_hasVar.f c = some (decide (c = 1 ∨ c = 2)) := by
  unfold impl_hasVar.f
  by_cases h : c = 1
  · simp [h]
  · rw [if_neg h]; congr 1; rw [Bool.eq_iff_iff]; simp [h]
/-- What the statements may write. -/
def wl (x : List S39) : List Int := (x.filter isw).map (fun s => s.f1)
theorem wl_in {x : List S39} (h : ∀ a ∈ x, okS a = true) : ∀ y ∈ wl x, 0 ≤ y ∧ y < 8 := by
  intro y hy
  unfold wl at hy
  simp only [List.mem_map, List.mem_filter] at hy
  obtain ⟨a, ⟨ha, hw⟩, rfl⟩ := hy
  exact okS_var (h a ha) hw
/-- A list of n bools. -/
def gl (n : Nat) (p : Nat → Bool) : List Bool := (List.range n).map p
theorem gl_len (n : Nat) (p : Nat → Bool) : (gl n p).length = n := by simp [gl]
theorem gl_rd (n : Nat) (p : Nat → Bool) (i : Nat) (h : i < n) : rdOf false (gl n p) (i : Int) = p i := by
  unfold rdOf gl
  rw [Int.toNat_natCast, List.getD_eq_getElem?_getD, List.getElem?_map, List.getElem?_range h]
  rfl
theorem gl_set (n : Nat) (p : Nat → Bool) (i : Nat) : (gl n p).set i true = gl n (fun j => p j || decide (j = i)) := by
  apply List.ext_getElem
  · simp [gl]
  · intro j h1 h2
    rw [List.getElem_set]
    simp only [gl, List.getElem_map, List.getElem_range]
    by_cases e : i = j
    · rw [if_pos e]; simp [e]
    · rw [if_neg e]; simp [show ¬ j = i from fun h => e h.symm]
theorem gl_congr (n : Nat) (p q : Nat → Bool) (h : ∀ i, i < n → p i = q i) : gl n p = gl n q := by
  unfold gl
  apply List.map_congr_left
  intro i hi
  exact h i (List.mem_range.1 hi)
theorem iwm (u : List S39) : ∀ (k : Nat) (pre x : List S39) (acc : List Int), x = pre ++ u → x.length ≤ 24 → u.length + 1 ≤ k → acc.length ≤ pre.length → (∀ a ∈ x, okS a = true) → (∀ y ∈ acc, 0 ≤ y ∧ y < 8) →
    impl_written_MayWrite.l0 k acc x (x.length : Int) (pre.length : Int) = some (asc8 (vin (acc ++ wl u))) := by
  induction u with
  | nil =>
    intro k pre x acc hx hz hk ha ho hy
    obtain ⟨k, rfl⟩ : ∃ m, k = m + 1 := ⟨k - 1, by omega⟩
    have hl : x.length = pre.length := by simp [hx]
    simp only [impl_written_MayWrite.l0]
    rw [if_neg (by omega), show acc ++ wl [] = acc from List.append_nil acc]
    exact wsort acc hy (by omega)
  | cons a t ih =>
    intro k pre x acc hx hz hk ha ho hy
    simp only [List.length_cons] at hk
    obtain ⟨k, rfl⟩ : ∃ m, k = m + 1 := ⟨k - 1, by omega⟩
    have hl : x.length = pre.length + (t.length + 1) := by simp [hx]
    have hr : rd_T39 x (pre.length : Int) = a := by rw [hx]; exact rd_app pre a t
    have hn : ((pre.length : Int) + 1) = (((pre ++ [a]).length : Nat) : Int) := by simp
    have hp : (pre ++ [a]).length = pre.length + 1 := by simp
    simp only [impl_written_MayWrite.l0, impl_MayWrite_1.f]
    rw [if_pos (by omega), if_pos (by omega), if_pos (by omega), hr, hasv_eq]
    simp only [Option.bind_some]
    rw [w64 (by omega) (by omega), hn]
    by_cases c : a.f0 = 1 ∨ a.f0 = 2
    · have hw : isw a = true := decide_eq_true c
      have hv := okS_var (ho a (by rw [hx]; simp)) hw
      have e : acc ++ wl (a :: t) = (acc ++ [a.f1]) ++ wl t := by unfold wl; rw [List.filter_cons, if_pos hw]; simp
      rw [if_pos (decide_eq_true c), if_pos trivial, if_pos (by omega), e]
      exact ih k (pre ++ [a]) x (acc ++ [a.f1]) (by simp [hx]) hz (by omega) (by simp; omega) ho (by
        intro y h; rw [List.mem_append, List.mem_singleton] at h
        rcases h with h | h
        · exact hy y h
        · rw [h]; exact hv)
    · have hw : ¬ isw a = true := fun h => c (of_decide_eq_true h)
      have e : wl (a :: t) = wl t := by unfold wl; rw [List.filter_cons, if_neg hw]
      rw [if_neg (fun h => c (of_decide_eq_true h)), e]
      exact ih k (pre ++ [a]) x acc (by simp [hx]) hz (by omega) (by omega) ho hy
/-- What a block may write, ascending. -/
def mayv (x : List S39) : List Int := if blk x = true then asc8 (vin (wl x)) else []
theorem imay (x : List S39) (hz : x.length ≤ 140737488351232) (k : Nat) (hk : 2 * x.length + 40 ≤ k) : impl_MayWrite.f k x = some (mayv x) := by
  unfold impl_MayWrite.f mayv
  rw [iblock x hz k (by omega)]
  simp only [Option.bind_some]
  by_cases b : blk x = true
  · have hs := blk_scan b
    rw [if_pos b, if_pos b]
    unfold impl_written_MayWrite.f
    have h := iwm x k [] x [] rfl hs.2 (by omega) (by simp) (blk_ok b) (by simp)
    rw [show (([] : List S39).length : Int) = 0 from rfl] at h
    rw [h]
    rfl
  · rw [if_neg b, if_neg b]
theorem slist_loop (p : Nat → Bool) (d : Nat) : ∀ (k : Nat) (acc : List Int) (i : Nat), i + d = 8 → d < k → acc.length ≤ i →
    spec_l07List.l0 k (gl 8 p) acc (i : Int) = some (acc ++ ((List.range' i d).filter p).map (fun i : Nat => (i : Int))) := by
  induction d with
  | zero =>
    intro k acc i hi hk hl
    obtain ⟨k, rfl⟩ : ∃ m, k = m + 1 := ⟨k - 1, by omega⟩
    simp only [spec_l07List.l0]
    rw [if_neg (by rw [gl_len]; omega)]
    simp
  | succ d ih =>
    intro k acc i hi hk hl
    obtain ⟨k, rfl⟩ : ∃ m, k = m + 1 := ⟨k - 1, by omega⟩
    simp only [spec_l07List.l0]
    rw [if_pos (by rw [gl_len]; omega), if_pos (by omega), gl_rd 8 p i (by omega), w64 (n := (i : Int) + 1) (by omega) (by omega), show (i : Int) + 1 = ((i + 1 : Nat) : Int) by omega, List.range'_succ, List.filter_cons]
    by_cases h : p i = true
    · rw [if_pos h, if_pos (by omega), if_pos h, ih k _ (i + 1) (by omega) (by omega) (by simp; omega)]
      simp
    · rw [if_neg h, if_neg h, ih k _ (i + 1) (by omega) (by omega) (by omega)]
theorem slist (p : Nat → Bool) (k : Nat) (hk : 9 ≤ k) : spec_l07List.f k (gl 8 p) = some (asc8 p) := by
  unfold spec_l07List.f asc8
  rw [List.range_eq_range']
  have h := slist_loop p 8 k [] 0 (by omega) (by omega) (by simp)
  exact h
theorem swrites_eq (c v n o a b : Int) : spec_l07Writes.f c v n o a b = some (decide (c = 1 ∨ c = 2)) := by
  unfold spec_l07Writes.f
  by_cases h : c = 1
  · simp [h]
  · rw [if_neg h]; congr 1; rw [Bool.eq_iff_iff]; simp [h]
theorem asc8_congr {p q : Nat → Bool} (h : ∀ i, i < 8 → p i = q i) : asc8 p = asc8 q := by
  unfold asc8
  congr 1
  apply List.filter_congr
  intro i hi
  exact h i (List.mem_range.1 hi)
theorem gl_false : List.replicate 8 false = gl 8 (fun _ => false) := rfl
theorem gl_var (p : Nat → Bool) (v : Int) (h0 : 0 ≤ v) : (gl 8 p).set v.toNat true = gl 8 (fun j => p j || decide ((j : Int) = v)) := by
  rw [gl_set]
  apply gl_congr
  intro j _
  congr 1
  rw [Bool.eq_iff_iff]
  simp only [decide_eq_true_eq]
  omega
theorem smay_loop (u : List S39) : ∀ (k : Nat) (pre x : List S39) (p : Nat → Bool), x = pre ++ u → blk x = true → 2 * u.length + 100 ≤ k →
    spec_MayWrite.l0 k x (gl 8 p) (pre.length : Int) = some (asc8 (fun j => p j || vin (wl u) j)) := by
  induction u with
  | nil =>
    intro k pre x p hx b hk
    obtain ⟨k, rfl⟩ : ∃ m, k = m + 2 := ⟨k - 2, by omega⟩
    have hl : x.length = pre.length := by simp [hx]
    simp only [spec_MayWrite.l0, spec_MayWrite.j1]
    rw [if_neg (by omega), if_neg (by simp), slist p _ (by omega)]
    simp only [Option.bind_some]
    congr 1
    apply asc8_congr
    intro i _
    simp [vin, wl]
  | cons a t ih =>
    intro k pre x p hx b hk
    simp only [List.length_cons] at hk
    obtain ⟨k, rfl⟩ : ∃ m, k = m + 2 := ⟨k - 2, by omega⟩
    have hs := blk_scan b
    have hl : x.length = pre.length + (t.length + 1) := by simp [hx]
    have hr : rd_T39 x (pre.length : Int) = a := by rw [hx]; exact rd_app pre a t
    have hn : ((pre.length : Int) + 1) = (((pre ++ [a]).length : Nat) : Int) := by simp
    simp only [spec_MayWrite.l0, spec_MayWrite.j1]
    rw [if_pos (by omega), sblock x (by omega) _ (by omega)]
    simp only [Option.bind_some]
    rw [if_pos b, if_pos (by omega), if_pos (by omega), hr, swrites_eq]
    simp only [Option.bind_some]
    rw [w64 (by omega) (by omega), hn]
    by_cases c : a.f0 = 1 ∨ a.f0 = 2
    · have hw : isw a = true := decide_eq_true c
      have hv := okS_var (blk_ok b a (by rw [hx]; simp)) hw
      rw [if_pos (decide_eq_true c), if_pos hv.1, if_pos (by rw [gl_len]; exact hv.2), gl_var p _ hv.1, ih k (pre ++ [a]) x _ (by simp [hx]) b (by omega)]
      congr 1
      apply asc8_congr
      intro i _
      have e : wl (a :: t) = a.f1 :: wl t := by unfold wl; rw [List.filter_cons, if_pos hw]; rfl
      rw [e, Bool.or_assoc]
      congr 1
      unfold vin
      rw [Bool.eq_iff_iff]
      simp only [Bool.or_eq_true, decide_eq_true_eq, List.mem_cons]
    · have hw : ¬ isw a = true := fun h => c (of_decide_eq_true h)
      have e : wl (a :: t) = wl t := by unfold wl; rw [List.filter_cons, if_neg hw]
      rw [if_neg (fun h => c (of_decide_eq_true h)), ih k (pre ++ [a]) x p (by simp [hx]) b (by omega), e]
theorem asc8_none : asc8 (fun _ => false) = [] := rfl
theorem smay (x : List S39) (hz : x.length ≤ 1048576) (k : Nat) (hk : 2 * x.length + 200 ≤ k) : spec_MayWrite.f k x = some (mayv x) := by
  unfold spec_MayWrite.f mayv
  rw [if_pos (by decide), gl_false]
  by_cases b : blk x = true
  · rw [if_pos b]
    have h := smay_loop x k [] x (fun _ => false) rfl b (by omega)
    rw [show (([] : List S39).length : Int) = 0 from rfl] at h
    rw [h]
    congr 1
  · obtain ⟨k, rfl⟩ : ∃ m, k = m + 2 := ⟨k - 2, by omega⟩
    rw [if_neg b]
    simp only [spec_MayWrite.l0, spec_MayWrite.j1]
    by_cases c : (0 : Int) < (x.length : Int)
    · rw [if_pos c, sblock x (by omega) _ (by omega)]
      simp only [Option.bind_some]
      rw [if_neg b, slist _ _ (by omega)]
      rfl
    · rw [if_neg c, if_neg (by simp), slist _ _ (by omega)]
      first | done | rfl
theorem smark_loop (d : Nat) : ∀ (k : Nat) (x : List S39) (a i : Int), 0 ≤ i → (x.length : Int) - i = d → d < k → (x.length : Int) ≤ 1048576 → 0 ≤ a → a + 6 * d ≤ 1000000000000 →
    ∃ y, laws_markStmtS.l0 k x a i = some (a + 6 * d, y) := by
  induction d with
  | zero =>
    intro k x a i h0 hd hk sz a0 a1
    obtain ⟨k, rfl⟩ : ∃ m, k = m + 1 := ⟨k - 1, by omega⟩
    refine ⟨x, ?_⟩
    simp only [laws_markStmtS.l0]
    rw [if_neg (by omega)]
    simp
  | succ d ih =>
    intro k x a i h0 hd hk sz a0 a1
    obtain ⟨k, rfl⟩ : ∃ m, k = m + 1 := ⟨k - 1, by omega⟩
    simp only [laws_markStmtS.l0, Option.bind_some]
    rw [if_pos (by omega), if_pos h0]
    rw [w64 (n := a + 1) (by omega) (by omega), w64 (n := a + 1 + 1) (by omega) (by omega), w64 (n := a + 1 + 1 + 1) (by omega) (by omega), w64 (n := a + 1 + 1 + 1 + 1) (by omega) (by omega), w64 (n := a + 1 + 1 + 1 + 1 + 1) (by omega) (by omega), w64 (n := a + 1 + 1 + 1 + 1 + 1 + 1) (by omega) (by omega), w64 (n := i + 1) (by omega) (by omega)]
    have hz : ∀ x' : List S39, x'.length = x.length → ∃ y, laws_markStmtS.l0 k x' (a + 1 + 1 + 1 + 1 + 1 + 1) (i + 1) = some (a + 6 * ((d + 1 : Nat) : Int), y) := fun x' e => by
      obtain ⟨y, e2⟩ := ih k x' (a + 1 + 1 + 1 + 1 + 1 + 1) (i + 1) (by omega) (by omega) (by omega) (by omega) (by omega) (by omega)
      exact ⟨y, by rw [e2]; congr 2; omega⟩
    exact hz _ (by simp only [List.length_set])
theorem smark_tells (l : List S39) (sz : (l.length : Int) ≤ 1048576) (k : Nat) (hk : l.length < k) : ∃ y, laws_markStmtS.f k l 1 = some (1 + 6 * (l.length : Int), y) := by
  obtain ⟨y, e⟩ := smark_loop l.length k l 1 0 (by omega) (by omega) hk sz (by omega) (by omega)
  exact ⟨y, e⟩
theorem mayv_len (x : List S39) : (mayv x).length ≤ 8 := by
  unfold mayv
  by_cases b : blk x = true
  · rw [if_pos b]; exact asc8_len _
  · rw [if_neg b]; simp
theorem FnExactMayWrite : laws_FnExactMayWrite.Pure := by
  intro l hl _
  obtain ⟨t, et, ht⟩ := sz_tells l hl
  refine ⟨2 * l.length + 300, ?_⟩
  unfold laws_FnExactMayWrite.f
  rw [et]
  simp only [Option.bind_some]
  by_cases c : t < 0
  · rw [if_pos c]
  · rw [if_neg c]
    have sz : (l.length : Int) ≤ 1048576 := by omega
    obtain ⟨x, hx⟩ : ∃ x, x = l.map cnv := ⟨_, rfl⟩
    have hlen : x.length = l.length := by rw [hx, List.length_map]
    have hto : ∀ k, l.length < k → laws_toStmtS.f k l = some x := by rw [hx]; exact toStmt_tells l sz
    clear hx
    have hv := mayv_len x
    have hE := eqInt_self (mayv x) (by omega)
    obtain ⟨y, hM, hH, _⟩ := mark_tells (mayv x) (by omega) 1 (by omega) (by omega)
    obtain ⟨z, hS⟩ := smark_tells x (by omega) (2 * l.length + 300) (by omega)
    have n1 : ¬ ((1 : Int) + ((mayv x).length : Int) < 0) := by omega
    have n2 : ¬ ((1 : Int) + 6 * (x.length : Int) < 0) := by omega
    rw [hto _ (by omega)]
    simp only [Option.bind_some]
    rw [smay x (by omega) _ (by omega), imay x (by omega) _ (by omega)]
    simp only [Option.bind_some]
    rw [hE _ (by omega), eqStmt_self x (by omega) _ (by omega), hS]
    simp only [Option.bind_some, if_true, if_neg n2, Bool.not_true]
    have e2 : 2 * l.length + 300 = (2 * l.length + 299) + 1 := by omega
    rw [e2]
    simp only [laws_FnExactMayWrite.j0, Bool.false_eq_true, if_false]
    rw [hM _ (by omega)]
    simp only [Option.bind_some]
    rw [hH _ (by omega)]
    simp only [Option.bind_some, if_neg n1, if_true]
    rw [hto _ (by omega)]
    simp only [Option.bind_some]
    rw [imay x (by omega) _ (by omega)]
    simp only [Option.bind_some]
    rw [hE _ (by omega)]
    simp only [Option.bind_some, if_true]

end Go.Proofs.Ytlhcofkandeepaa.Pure
