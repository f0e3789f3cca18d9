/- The program's DepthOf and the reference's return the same for all statements and places, and leave the statements as they were; no condition. -/
import Derived.Test.YtkjdhmffknahgaaPFnExactDepthOfx8
namespace Go.Proofs.Ytkjdhmffknahgaa.Pure
open Go.RowKit Go.Proofs.Ytkjdhmffknahgaa.PFnExactDepthOf Go.Proofs.YtkjdhmffknahgaaW.PrintWords Go.Proofs.YtkjdhmffknahgaaW.PrintLast
set_option linter.unusedVariables false
set_option linter.unusedSimpArgs false

theorem w64 {n : Int} (h1 : -9223372036854775808 ≤ n) (h2 : n ≤ 9223372036854775807) : wrap64 n = n := by unfold wrap64; omega
theorem w64_in (n : Int) : -9223372036854775808 ≤ wrap64 n ∧ wrap64 n ≤ 9223372036854775807 := by unfold wrap64; omega
theorem wf64 {n : Int} (h : (Lit.int .i64 n).wf = true) : -9223372036854775808 ≤ n ∧ n ≤ 9223372036854775807 := by
  simp only [Lit.wf, IntKind.min, IntKind.max, IntKind.signed, IntKind.bits, Bool.and_eq_true, decide_eq_true_eq, if_true] at h
  omega
theorem wfu8 {n : Int} (h : (Lit.int .u8 n).wf = true) : 0 ≤ n ∧ n ≤ 255 := by
  simp [Lit.wf, IntKind.min, IntKind.max, IntKind.signed, IntKind.bits] at h
  omega
theorem and_in (x : Int) (m : Nat) (hm : m < 9223372036854775808) : 0 ≤ Go.bits .and .i64 x (m : Int) ∧ Go.bits .and .i64 x (m : Int) ≤ m := by
  have h1 : (BitVec.ofInt 64 x &&& BitVec.ofInt 64 (m : Int)).toNat ≤ m := by
    rw [BitVec.toNat_and]
    refine Nat.le_trans Nat.and_le_right ?_
    rw [BitVec.ofInt_natCast, BitVec.toNat_ofNat]
    exact Nat.mod_le _ _
  have h2 : Go.bits .and .i64 x (m : Int) = IntKind.i64.wrap (((BitVec.ofInt 64 x &&& BitVec.ofInt 64 (m : Int)).toNat : Nat) : Int) := rfl
  rw [h2, Go.IntKind.wrap_i64]
  omega
theorem and255 (x : Int) : 0 ≤ Go.bits .and .i64 x 255 ∧ Go.bits .and .i64 x 255 ≤ 255 := and_in x 255 (by decide)
theorem tmod_in (x n : Int) (h0 : 0 ≤ x) (h : 1 ≤ n) : 0 ≤ Int.tmod x n ∧ Int.tmod x n < n := ⟨Int.tmod_nonneg _ h0, Int.tmod_lt_of_pos _ (by omega)⟩
theorem in_eq (a b c : Int) : spec_l01In.f a b c = some (decide (b ≤ a ∧ a ≤ c)) := by
  unfold spec_l01In.f
  by_cases h : a ≥ b
  · rw [if_pos h]; simp; omega
  · rw [if_neg h]; simp; omega
theorem within_eq (a b c : Int) : impl_within.f a b c = some (decide (b ≤ a ∧ a ≤ c)) := by
  unfold impl_within.f
  by_cases h : a ≥ b
  · rw [if_pos h]; simp; omega
  · rw [if_neg h]; simp; omega
/-- A valid expression. -/
def eok (o a b : Int) : Bool := decide (1 ≤ o ∧ o ≤ 7) && (decide (-8 ≤ a ∧ a ≤ 999) && decide (-8 ≤ b ∧ b ≤ 999))
theorem iexpr (o a b : Int) : impl_ExprOk.f o a b = some (eok o a b) := by
  unfold impl_ExprOk.f impl_OperandOk.f eok
  simp only [within_eq, Option.bind_some]
  cases decide (1 ≤ o ∧ o ≤ 7) <;> cases decide (-8 ≤ a ∧ a ≤ 999) <;> simp
theorem eok_in {o a b : Int} (h : eok o a b = true) : (1 ≤ o ∧ o ≤ 7) ∧ (-8 ≤ a ∧ a ≤ 999) ∧ (-8 ≤ b ∧ b ≤ 999) := by
  unfold eok at h
  simp only [Bool.and_eq_true, decide_eq_true_eq] at h
  exact h
theorem sexpr (o a b : Int) : spec_ExprOk.f o a b = some (eok o a b) := by
  unfold spec_ExprOk.f spec_OperandOk.f eok
  simp only [in_eq, Option.bind_some]
  cases decide (1 ≤ o ∧ o ≤ 7) <;> cases decide (-8 ≤ a ∧ a ≤ 999) <;> simp
/-- A valid statement. -/
def zok (o a b : Int) : Bool := decide (o = 0) && (decide (a = 0) && decide (b = 0))
def sok (c v n o a b : Int) : Bool :=
  if c = 1 then decide (0 ≤ v ∧ v ≤ 7) && (decide (n = 0) && eok o a b)
  else if c = 2 then decide (0 ≤ v ∧ v ≤ 7) && (decide (0 ≤ n ∧ n ≤ 3) && zok o a b)
  else if c = 3 then decide (v = 0) && (decide (n = 0) && eok o a b)
  else if c = 4 then decide (v = 0) && (decide (n = 0) && eok o a b)
  else if c = 5 then decide (v = 0) && (decide (1 ≤ n ∧ n ≤ 5) && zok o a b)
  else if c = 6 then decide (v = 0) && (decide (n = 0) && zok o a b)
  else false
theorem hasVar_eq (c : Int) : impl_hasVar.f c = some (decide (c = 1 ∨ c = 2)) := by
  unfold impl_hasVar.f
  by_cases h : c = 1
  · rw [if_pos h]; simp [h]
  · rw [if_neg h]; simp [h]; rfl
theorem hasExpr_eq (c : Int) : impl_hasExpr.f c = some (decide (c = 1 ∨ c = 3 ∨ c = 4)) := by
  unfold impl_hasExpr.f
  by_cases h : c = 1
  · rw [if_pos h]; simp [h]
  · rw [if_neg h]
    by_cases h2 : c = 3
    · rw [if_pos h2]; simp [h2]
    · rw [if_neg h2]; simp [h, h2]; rfl
theorem isVar_eq (v : Int) : impl_isVar.f v = some (decide (0 ≤ v ∧ v ≤ 7)) := by
  unfold impl_isVar.f; rw [within_eq]; rfl
theorem isSensor_eq (v : Int) : impl_isSensor.f v = some (decide (0 ≤ v ∧ v ≤ 3)) := by
  unfold impl_isSensor.f; rw [within_eq]; rfl
theorem istmt (c v n o a b : Int) (k : Nat) (hk : 2 ≤ k) : impl_StmtOk.f k c v n o a b = some (sok c v n o a b) := by
  obtain ⟨k, rfl⟩ : ∃ m, k = m + 2 := ⟨k - 2, by omega⟩
  unfold impl_StmtOk.f sok zok
  simp only [within_eq, hasVar_eq, isVar_eq, hasExpr_eq, isSensor_eq, iexpr, Option.bind_some, impl_StmtOk.j0, impl_StmtOk.j1]
  by_cases h1 : c = 1
  · subst h1
    cases decide (0 ≤ v ∧ v ≤ 7) <;> cases eok o a b <;> by_cases hn : n = 0 <;> simp [hn]
  · by_cases h2 : c = 2
    · subst h2
      cases decide (0 ≤ v ∧ v ≤ 7) <;> cases decide (0 ≤ n ∧ n ≤ 3) <;> by_cases ho : o = 0 <;> by_cases ha : a = 0 <;> by_cases hb : b = 0 <;> simp [ho, ha, hb]
    · by_cases h3 : c = 3
      · subst h3
        cases eok o a b <;> by_cases hn : n = 0 <;> by_cases hv : v = 0 <;> simp [hn, hv]
      · by_cases h4 : c = 4
        · subst h4
          cases eok o a b <;> by_cases hn : n = 0 <;> by_cases hv : v = 0 <;> simp [hn, hv]
        · by_cases h5 : c = 5
          · subst h5
            cases decide (1 ≤ n ∧ n ≤ 5) <;> by_cases hv : v = 0 <;> by_cases ho : o = 0 <;> by_cases ha : a = 0 <;> by_cases hb : b = 0 <;> simp [hv, ho, ha, hb]
          · by_cases h6 : c = 6
            · subst h6
              by_cases hn : n = 0 <;> by_cases hv : v = 0 <;> by_cases ho : o = 0 <;> by_cases ha : a = 0 <;> by_cases hb : b = 0 <;> simp [hn, hv, ho, ha, hb]
            · have hw : ¬ (1 ≤ c ∧ c ≤ 6) := by omega
              simp [h1, h2, h3, h4, h5, h6, hw]
theorem sstmt (c v n o a b : Int) (k : Nat) (hk : 2 ≤ k) : spec_StmtOk.f k c v n o a b = some (sok c v n o a b) := by
  obtain ⟨k, rfl⟩ : ∃ m, k = m + 2 := ⟨k - 2, by omega⟩
  unfold spec_StmtOk.f spec_l04Plain.f sok zok
  simp only [in_eq, sexpr, Option.bind_some, spec_StmtOk.j0]
  by_cases h1 : c = 1
  · subst h1
    cases decide (0 ≤ v ∧ v ≤ 7) <;> cases eok o a b <;> by_cases hn : n = 0 <;> simp [hn]
  · by_cases h2 : c = 2
    · subst h2
      cases decide (0 ≤ v ∧ v ≤ 7) <;> cases decide (0 ≤ n ∧ n ≤ 3) <;> by_cases ho : o = 0 <;> by_cases ha : a = 0 <;> by_cases hb : b = 0 <;> simp [ho, ha, hb]
    · by_cases h3 : c = 3
      · subst h3
        cases eok o a b <;> by_cases hn : n = 0 <;> by_cases hv : v = 0 <;> simp [hn, hv]
      · by_cases h4 : c = 4
        · subst h4
          cases eok o a b <;> by_cases hn : n = 0 <;> by_cases hv : v = 0 <;> simp [hn, hv]
        · by_cases h5 : c = 5
          · subst h5
            cases decide (1 ≤ n ∧ n ≤ 5) <;> by_cases hv : v = 0 <;> by_cases ho : o = 0 <;> by_cases ha : a = 0 <;> by_cases hb : b = 0 <;> simp [hv, ho, ha, hb]
          · by_cases h6 : c = 6
            · subst h6
              by_cases hn : n = 0 <;> by_cases hv : v = 0 <;> by_cases ho : o = 0 <;> by_cases ha : a = 0 <;> by_cases hb : b = 0 <;> simp [hn, hv, ho, ha, hb]
            · by_cases hn : n = 0 <;> by_cases hv : v = 0 <;> by_cases ho : o = 0 <;> by_cases ha : a = 0 <;> by_cases hb : b = 0 <;> simp [h1, h2, h3, h4, h5, h6, hn, hv, ho, ha, hb]
theorem rd_app (pre : List S31) (a : S31) (t : List S31) : rd_T31 (pre ++ a :: t) (pre.length : Int) = a := by
  unfold rd_T31
  simp [List.getD]
def okS (s : S31) : Bool := sok s.f0 s.f1 s.f2 s.f3.f0 s.f3.f1 s.f3.f2
def opn (s : S31) : Bool := decide (s.f0 = 4 ∨ s.f0 = 5)
def del (s : S31) : Int := if s.f0 = 4 ∨ s.f0 = 5 then 1 else if s.f0 = 6 then -1 else 0
theorem del_in (s : S31) : -1 ≤ del s ∧ del s ≤ 1 := by unfold del; split <;> (try split) <;> omega
def scan : List S31 → Int → Option Int
  | [], d => some d
  | s :: t, d => if okS s = true then (if 0 ≤ d + del s ∧ d + del s ≤ 3 then scan t (d + del s) else none) else none
def fin (o : Option Int) (n : Nat) : Bool := decide (o = some 0) && decide (n ≤ 24)
/-- Whether the statements are a valid block. -/
def blk (l : List S31) : Bool := fin (scan l 0) l.length
theorem opening_eq (c : Int) : impl_isOpening.f c = some (decide (c = 4 ∨ c = 5)) := by
  unfold impl_isOpening.f
  by_cases h : c = 4
  · simp [h]
  · rw [if_neg h]; congr 1; rw [Bool.eq_iff_iff]; simp [h]
theorem iscan (suf : List S31) : ∀ (k : Nat) (pre x : List S31) (d : Int), x = pre ++ suf → x.length ≤ 140737488351232 → 2 * suf.length + 4 ≤ k → 0 ≤ d → d ≤ 3 →
    impl_BlockOk.l0 k x d x (x.length : Int) (pre.length : Int) = some (fin (scan suf d) x.length) := by
  induction suf with
  | nil =>
    intro k pre x d hx hz hk d0 d1
    obtain ⟨k, rfl⟩ : ∃ m, k = m + 1 := ⟨k - 1, by omega⟩
    have hl : x.length = pre.length := by simp [hx]
    unfold impl_BlockOk.l0
    rw [if_neg (by omega)]
    unfold scan fin
    by_cases c : d = 0
    · rw [if_pos c, c]; congr 1; simp; omega
    · rw [if_neg c]; simp [c]
  | cons a t ih =>
    intro k pre x d hx hz hk d0 d1
    simp only [List.length_cons] at hk
    obtain ⟨k, rfl⟩ : ∃ m, k = m + 2 := ⟨k - 2, by omega⟩
    have hl : x.length = pre.length + (t.length + 1) := by simp [hx]
    have hr : rd_T31 x (pre.length : Int) = a := by rw [hx]; exact rd_app pre a t
    have hn : ((pre.length : Int) + 1) = (((pre ++ [a]).length : Nat) : Int) := by simp
    unfold impl_BlockOk.l0
    rw [if_pos (by omega), if_pos (by omega), if_pos (by omega)]
    simp only [hr]
    rw [istmt _ _ _ _ _ _ _ (by omega)]
    simp only [Option.bind_some]
    have hs : ∀ e, scan (a :: t) e = if okS a = true then (if 0 ≤ e + del a ∧ e + del a ≤ 3 then scan t (e + del a) else none) else none := fun e => rfl
    rw [hs]
    by_cases ok : okS a = true
    · rw [if_pos ok]
      unfold okS at ok
      rw [if_pos ok, opening_eq]
      simp only [Option.bind_some, decide_eq_true_eq]
      have step : ∀ e : Int, 0 ≤ e → e ≤ 3 → impl_BlockOk.l0 k x e x (x.length : Int) (wrap64 ((pre.length : Int) + 1)) = some (fin (scan t e) x.length) := by
        intro e e0 e1
        rw [w64 (by omega) (by omega), hn]
        exact ih k (pre ++ [a]) x e (by simp [hx]) hz (by omega) e0 e1
      by_cases o : a.f0 = 4 ∨ a.f0 = 5
      · have hd : del a = 1 := by unfold del; rw [if_pos o]
        rw [if_pos o, hd, w64 (n := d + 1) (by omega) (by omega)]
        unfold impl_BlockOk.j1
        rw [if_neg (by omega), if_neg (by omega)]
        by_cases c : d + 1 > 3
        · rw [if_pos c, if_neg (by omega)]; simp [fin]
        · rw [if_neg c, if_pos (by omega)]
          exact step _ (by omega) (by omega)
      · rw [if_neg o]
        unfold impl_BlockOk.j1
        by_cases c6 : a.f0 = 6
        · have hd : del a = -1 := by unfold del; rw [if_neg o, if_pos c6]
          rw [if_pos c6, hd, w64 (n := d - 1) (by omega) (by omega)]
          by_cases c : d - 1 < 0
          · rw [if_pos c, if_neg (by omega)]; simp [fin]
          · rw [if_neg c, if_neg (by omega), if_pos (by omega)]
            exact step _ (by omega) (by omega)
        · have hd : del a = 0 := by unfold del; rw [if_neg o, if_neg c6]
          rw [if_neg c6, hd, if_neg (by omega), if_neg (by omega), if_pos (by omega), show d + 0 = d by omega]
          exact step _ (by omega) (by omega)
    · rw [if_neg ok]
      unfold okS at ok
      rw [if_neg ok]
      simp [fin]
theorem iblock (l : List S31) (hz : l.length ≤ 140737488351232) (k : Nat) (hk : 2 * l.length + 4 ≤ k) : impl_BlockOk.f k l = some (blk l) :=
  iscan l k [] l 0 rfl hz hk (by omega) (by omega)
theorem sscan (suf : List S31) : ∀ (k : Nat) (pre x : List S31) (d : Int), x = pre ++ suf → x.length ≤ 140737488351232 → 2 * suf.length + 4 ≤ k → 0 ≤ d → d ≤ 3 →
    spec_BlockOk.l0 k x d (pre.length : Int) = some (fin (scan suf d) x.length) := by
  induction suf with
  | nil =>
    intro k pre x d hx hz hk d0 d1
    obtain ⟨k, rfl⟩ : ∃ m, k = m + 1 := ⟨k - 1, by omega⟩
    have hl : x.length = pre.length := by simp [hx]
    unfold spec_BlockOk.l0
    rw [if_neg (by omega)]
    unfold scan fin
    by_cases c : d = 0
    · rw [if_pos c, c]; congr 1; simp; omega
    · rw [if_neg c]; simp [c]
  | cons a t ih =>
    intro k pre x d hx hz hk d0 d1
    simp only [List.length_cons] at hk
    obtain ⟨k, rfl⟩ : ∃ m, k = m + 2 := ⟨k - 2, by omega⟩
    have hl : x.length = pre.length + (t.length + 1) := by simp [hx]
    have hr : rd_T31 x (pre.length : Int) = a := by rw [hx]; exact rd_app pre a t
    have hn : ((pre.length : Int) + 1) = (((pre ++ [a]).length : Nat) : Int) := by simp
    unfold spec_BlockOk.l0
    rw [if_pos (by omega), if_pos (by omega)]
    simp only [hr]
    rw [sstmt _ _ _ _ _ _ _ (by omega)]
    simp only [Option.bind_some]
    have hs : ∀ e, scan (a :: t) e = if okS a = true then (if 0 ≤ e + del a ∧ e + del a ≤ 3 then scan t (e + del a) else none) else none := fun e => rfl
    rw [hs]
    by_cases ok : okS a = true
    · rw [if_pos ok]
      unfold okS at ok
      rw [if_pos ok]
      have step : ∀ e : Int, 0 ≤ e → e ≤ 3 → spec_BlockOk.l0 k x e (wrap64 ((pre.length : Int) + 1)) = some (fin (scan t e) x.length) := by
        intro e e0 e1
        rw [w64 (by omega) (by omega), hn]
        exact ih k (pre ++ [a]) x e (by simp [hx]) hz (by omega) e0 e1
      have hj : ∀ b : Bool, b = decide (a.f0 = 4 ∨ a.f0 = 5) → spec_BlockOk.j1 (k + 1) x d (pre.length : Int) a.f0 b = some (fin (if 0 ≤ d + del a ∧ d + del a ≤ 3 then scan t (d + del a) else none) x.length) := by
        intro b hb
        unfold spec_BlockOk.j1
        by_cases o : a.f0 = 4 ∨ a.f0 = 5
        · have hd : del a = 1 := by unfold del; rw [if_pos o]
          rw [if_pos (by rw [hb]; exact decide_eq_true o), hd, w64 (n := d + 1) (by omega) (by omega), in_eq]
          simp only [Option.bind_some, decide_eq_true_eq]
          by_cases c : 0 ≤ d + 1 ∧ d + 1 ≤ 3
          · rw [if_pos c, if_pos c]; exact step _ c.1 c.2
          · rw [if_neg c, if_neg c]; simp [fin]
        · rw [if_neg (by rw [hb]; simp; omega)]
          by_cases c6 : a.f0 = 6
          · have hd : del a = -1 := by unfold del; rw [if_neg o, if_pos c6]
            rw [if_pos c6, hd, w64 (n := d - 1) (by omega) (by omega), in_eq, show d + -1 = d - 1 by omega]
            simp only [Option.bind_some, decide_eq_true_eq]
            by_cases c : 0 ≤ d - 1 ∧ d - 1 ≤ 3
            · rw [if_pos c, if_pos c]; exact step _ c.1 c.2
            · rw [if_neg c, if_neg c]; simp [fin]
          · have hd : del a = 0 := by unfold del; rw [if_neg o, if_neg c6]
            rw [if_neg c6, hd, in_eq, show d + 0 = d by omega]
            simp only [Option.bind_some, decide_eq_true_eq]
            rw [if_pos ⟨d0, d1⟩, if_pos ⟨d0, d1⟩]; exact step _ d0 d1
      by_cases c4 : a.f0 = 4
      · rw [if_pos c4]
        exact hj _ (by simp [c4])
      · rw [if_neg c4]
        exact hj _ (by rw [Bool.eq_iff_iff]; simp [c4])
    · rw [if_neg ok]
      unfold okS at ok
      rw [if_neg ok]
      simp [fin]
theorem sblock (l : List S31) (hz : l.length ≤ 140737488351232) (k : Nat) (hk : 2 * l.length + 4 ≤ k) : spec_BlockOk.f k l = some (blk l) :=
  sscan l k [] l 0 rfl hz hk (by omega) (by omega)
/-- Where the statement that is opened ends: depth d at place p. -/
def fend : List S31 → Int → Int → Int
  | [], _, _ => -1
  | a :: t, d, p => if a.f0 = 6 ∧ d = 1 then p else fend t (d + del a) (p + 1)
theorem sopens_eq (c v n o a b : Int) : spec_l05Opens.f c v n o a b = some (decide (c = 4 ∨ c = 5)) := by
  unfold spec_l05Opens.f
  by_cases h : c = 4
  · simp [h]
  · rw [if_neg h]; congr 1; rw [Bool.eq_iff_iff]; simp [h]
theorem send (suf : List S31) : ∀ (k : Nat) (pre x : List S31) (d : Int), x = pre ++ suf → x.length ≤ 1048576 → 2 * suf.length + 1 ≤ k → (1 ≤ d ∨ 0 ≤ d ∧ ∃ a t, suf = a :: t ∧ (a.f0 = 4 ∨ a.f0 = 5)) → d ≤ pre.length →
    spec_l05End.l0 k x d (pre.length : Int) = some (fend suf d (pre.length : Int)) := by
  induction suf with
  | nil =>
    intro k pre x d hx hz hk d0 d1
    obtain ⟨k, rfl⟩ : ∃ m, k = m + 1 := ⟨k - 1, by omega⟩
    have hl : x.length = pre.length := by simp [hx]
    unfold spec_l05End.l0
    rw [if_neg (by omega)]
    rfl
  | cons a t ih =>
    intro k pre x d hx hz hk d0 d1
    simp only [List.length_cons] at hk
    obtain ⟨k, rfl⟩ : ∃ m, k = m + 2 := ⟨k - 2, by omega⟩
    have hl : x.length = pre.length + (t.length + 1) := by simp [hx]
    have hr : rd_T31 x (pre.length : Int) = a := by rw [hx]; exact rd_app pre a t
    have hn : ((pre.length : Int) + 1) = (((pre ++ [a]).length : Nat) : Int) := by simp
    have hf : fend (a :: t) d (pre.length : Int) = if a.f0 = 6 ∧ d = 1 then (pre.length : Int) else fend t (d + del a) ((pre.length : Int) + 1) := rfl
    have step : ∀ e : Int, 1 ≤ e → e ≤ (pre.length : Int) + 1 → spec_l05End.l0 k x e (wrap64 ((pre.length : Int) + 1)) = some (fend t e ((pre.length : Int) + 1)) := by
      intro e e0 e1
      rw [w64 (by omega) (by omega), hn]
      exact ih k (pre ++ [a]) x e (by simp [hx]) hz (by omega) (Or.inl e0) (by omega)
    unfold spec_l05End.l0
    rw [if_pos (by omega), if_pos (by omega)]
    simp only [hr]
    rw [sopens_eq, hf]
    simp only [Option.bind_some, decide_eq_true_eq]
    have j : ∀ e : Int, spec_l05End.j1 (k + 1) x e (pre.length : Int) = if a.f0 = 6 then (if wrap64 (e - 1) = 0 then some (pre.length : Int) else spec_l05End.l0 k x (wrap64 (e - 1)) (wrap64 ((pre.length : Int) + 1))) else spec_l05End.l0 k x e (wrap64 ((pre.length : Int) + 1)) := by
      intro e
      unfold spec_l05End.j1
      rw [if_pos (by omega), if_pos (by omega)]
      simp only [hr]
    by_cases o : a.f0 = 4 ∨ a.f0 = 5
    · have hd : del a = 1 := by unfold del; rw [if_pos o]
      have d2 : 0 ≤ d := by omega
      rw [if_pos o, hd, w64 (n := d + 1) (by omega) (by omega), j, if_neg (by omega), if_neg (by omega)]
      exact step _ (by omega) (by omega)
    · have d2 : 1 ≤ d := by
        rcases d0 with h | ⟨h, a', t', e1, e2⟩
        · exact h
        · cases e1; exact absurd e2 o
      rw [if_neg o, j]
      by_cases c6 : a.f0 = 6
      · have hd : del a = -1 := by unfold del; rw [if_neg o, if_pos c6]
        rw [if_pos c6, hd, w64 (n := d - 1) (by omega) (by omega)]
        by_cases c : d = 1
        · rw [if_pos (by omega), if_pos ⟨c6, c⟩]
        · rw [if_neg (by omega), if_neg (by omega), show d + -1 = d - 1 by omega]
          exact step _ (by omega) (by omega)
      · have hd : del a = 0 := by unfold del; rw [if_neg o, if_neg c6]
        rw [if_neg c6, hd, if_neg (by omega), show d + 0 = d by omega]
        exact step _ (by omega) (by omega)
theorem at_split (x : List S31) (i : Int) (h0 : 0 ≤ i) (h1 : i < (x.length : Int)) : ∃ pre a t, x = pre ++ a :: t ∧ (pre.length : Int) = i ∧ rd_T31 x i = a := by
  have h : i.toNat < x.length := by omega
  refine ⟨x.take i.toNat, x[i.toNat], x.drop (i.toNat + 1), ?_, ?_, ?_⟩
  · rw [List.getElem_cons_drop, List.take_append_drop]
  · rw [List.length_take]; omega
  · unfold rd_T31
    rw [List.getD_eq_getElem?_getD, List.getElem?_eq_getElem h]
    rfl
def tot : List S31 → Int
  | [] => 0
  | a :: s => del a + tot s
def mnp : List S31 → Int
  | [] => 0
  | a :: s => if del a + mnp s < 0 then del a + mnp s else 0
theorem mnp_le (s : List S31) : mnp s ≤ 0 ∧ mnp s ≤ tot s := by
  induction s with
  | nil => exact ⟨Int.le_refl _, Int.le_refl _⟩
  | cons a s ih => unfold mnp tot; split <;> omega
theorem tot_in (s : List S31) : -(s.length : Int) ≤ tot s ∧ tot s ≤ s.length := by
  induction s with
  | nil => exact ⟨by simp [tot], by simp [tot]⟩
  | cons a s ih => have := del_in a; unfold tot; simp only [List.length_cons]; omega
theorem tot_app (s r : List S31) : tot (s ++ r) = tot s + tot r := by
  induction s with
  | nil => simp [tot]
  | cons a s ih =>
    have h : tot (a :: s ++ r) = del a + tot (s ++ r) := rfl
    have h2 : tot (a :: s) = del a + tot s := rfl
    omega
theorem fend_app (s : List S31) : ∀ (r : List S31) (d p : Int), 1 ≤ d →
    (mnp s + d ≤ 0 → p ≤ fend (s ++ r) d p ∧ fend (s ++ r) d p < p + s.length) ∧ (1 ≤ mnp s + d → fend (s ++ r) d p = fend r (d + tot s) (p + s.length) ∧ 1 ≤ d + tot s) := by
  induction s with
  | nil =>
    intro r d p h
    refine ⟨fun c => ?_, fun c => ?_⟩
    · unfold mnp at c; omega
    · have e : tot ([] : List S31) = 0 := rfl
      rw [e]
      simp; exact h
  | cons a s ih =>
    intro r d p h
    have hm := mnp_le s
    have hf : fend (a :: s ++ r) d p = if a.f0 = 6 ∧ d = 1 then p else fend (s ++ r) (d + del a) (p + 1) := rfl
    have h1 : mnp (a :: s) = if del a + mnp s < 0 then del a + mnp s else 0 := rfl
    have h2 : tot (a :: s) = del a + tot s := rfl
    have hd : del a = if a.f0 = 4 ∨ a.f0 = 5 then 1 else if a.f0 = 6 then -1 else 0 := rfl
    have hdi := del_in a
    rw [hf, h1, h2]
    simp only [List.length_cons]
    by_cases c : a.f0 = 6 ∧ d = 1
    · rw [if_pos c]
      rw [if_neg (by omega), if_pos c.1] at hd
      rw [if_pos (by omega)]
      exact ⟨fun _ => ⟨by omega, by omega⟩, fun _ => by omega⟩
    · rw [if_neg c]
      have hde : 1 ≤ d + del a := by
        by_cases c6 : a.f0 = 6
        · omega
        · rw [hd]; split
          · omega
          · omega
      obtain ⟨i1, i2⟩ := ih r (d + del a) (p + 1) hde
      refine ⟨fun k => ?_, fun k => ?_⟩
      · have := i1 (by revert k; split <;> omega)
        push_cast
        omega
      · have := i2 (by revert k; split <;> omega)
        rw [this.1, show d + del a + tot s = d + (del a + tot s) by omega, show p + 1 + (s.length : Int) = p + ((s.length + 1 : Nat) : Int) by push_cast; omega]
        exact ⟨rfl, by omega⟩
theorem scan_app (s : List S31) : ∀ (r : List S31) (d e : Int), 0 ≤ d → d ≤ 3 → scan (s ++ r) d = some e → 0 ≤ d + mnp s ∧ d + tot s ≤ 3 ∧ scan r (d + tot s) = some e ∧ (∀ a ∈ s, okS a = true) := by
  induction s with
  | nil =>
    intro r d e h0 h1 h
    have e1 : tot ([] : List S31) = 0 := rfl
    have e2 : mnp ([] : List S31) = 0 := rfl
    rw [e1, e2, show d + 0 = d by omega]
    exact ⟨h0, h1, h, fun a ha => by simp at ha⟩
  | cons a s ih =>
    intro r d e h0 h1 h
    have hs : scan (a :: s ++ r) d = if okS a = true then (if 0 ≤ d + del a ∧ d + del a ≤ 3 then scan (s ++ r) (d + del a) else none) else none := rfl
    rw [hs] at h
    by_cases ok : okS a = true
    · rw [if_pos ok] at h
      by_cases c : 0 ≤ d + del a ∧ d + del a ≤ 3
      · rw [if_pos c] at h
        obtain ⟨i1, i2, i3, i4⟩ := ih r _ e c.1 c.2 h
        have h1 : mnp (a :: s) = if del a + mnp s < 0 then del a + mnp s else 0 := rfl
        have h2 : tot (a :: s) = del a + tot s := rfl
        rw [h1, h2]
        refine ⟨by split <;> omega, by omega, by rw [show d + (del a + tot s) = d + del a + tot s by omega]; exact i3, ?_⟩
        intro b hb
        rcases List.mem_cons.mp hb with rfl | hb
        · exact ok
        · exact i4 b hb
      · rw [if_neg c] at h; exact absurd h (by simp)
    · rw [if_neg ok] at h; exact absurd h (by simp)
theorem blk_scan {x : List S31} (h : blk x = true) : scan x 0 = some 0 ∧ x.length ≤ 24 := by
  unfold blk fin at h
  simpa using h
theorem blk_tot {x : List S31} (h : blk x = true) : tot x = 0 := by
  obtain ⟨h1, _⟩ := blk_scan h
  have h2 := scan_app x [] 0 0 (by omega) (by omega) (by simpa using h1)
  have h3 := h2.2.2.1
  simp only [scan, Option.some.injEq] at h3
  omega
def cnv (s : S72) : S31 := ⟨s.f0, s.f1, s.f2, ⟨s.f3.f0, s.f3.f1, s.f3.f2⟩⟩
theorem rdc (xs : List S72) (i : Int) (h0 : 0 ≤ i) (h1 : i < (xs.length : Int)) : (xs.map cnv)[i.toNat]? = some (cnv (rd_T72 xs i)) := by
  have h : i.toNat < xs.length := by omega
  unfold rd_T72
  rw [List.getElem?_map, List.getD_eq_getElem?_getD, List.getElem?_eq_getElem h]
  rfl
theorem toStmt_loop (l : List S72) (sz : (l.length : Int) ≤ 140737488351232) (d : Nat) : ∀ (k : Nat) (x : List S31) (i : Int), 0 ≤ i → i ≤ l.length → (l.length : Int) - i = d → d < k → x.length = l.length → (∀ j : Nat, (j : Int) < i → x[j]? = (l.map cnv)[j]?) →
    laws_toStmtS.l0 k l x i = some (l.map cnv) := by
  induction d with
  | zero =>
    intro k x i h0 h1 hd hk hl hx
    obtain ⟨k, rfl⟩ : ∃ m, k = m + 1 := ⟨k - 1, by omega⟩
    simp only [laws_toStmtS.l0]
    rw [if_neg (by omega)]
    congr 1
    apply List.ext_getElem?
    intro j
    by_cases hj : (j : Int) < i
    · exact hx j hj
    · rw [List.getElem?_eq_none (by omega), List.getElem?_eq_none (by simp; omega)]
  | succ d ih =>
    intro k x i h0 h1 hd hk hl hx
    obtain ⟨k, rfl⟩ : ∃ m, k = m + 1 := ⟨k - 1, by omega⟩
    simp only [laws_toStmtS.l0, laws_toStmt.f, laws_toExpr.f, Option.bind_some]
    rw [if_pos (by omega), if_pos h0, if_pos (by omega), w64 (n := i + 1) (by omega) (by omega)]
    refine ih k _ (i + 1) (by omega) (by omega) (by omega) (by omega) (by simp [hl]) ?_
    intro j hj
    by_cases e : (j : Int) = i
    · have e2 : j = i.toNat := by omega
      subst e2
      rw [rdc l i h0 (by omega), List.getElem?_set_self (by omega)]
      rfl
    · rw [List.getElem?_set_ne (by omega)]
      exact hx j (by omega)
theorem toStmt_tells (l : List S72) (h : (l.length : Int) ≤ 1048576) : ∀ k, l.length < k → laws_toStmtS.f k l = some (l.map cnv) := by
  intro k hk
  unfold laws_toStmtS.f
  rw [if_pos (by omega), if_pos (by omega)]
  exact toStmt_loop l (by omega) l.length k _ 0 (by omega) (by omega) (by omega) hk (by simp) (fun j hj => by omega)
theorem eqStmt_loop (l : List S31) (sz : (l.length : Int) ≤ 140737488351232) (d : Nat) : ∀ (k : Nat) (i : Int), 0 ≤ i → i ≤ l.length → (l.length : Int) - i = d → d < k → laws_eqStmtS.l0 k l l i = some true := by
  induction d with
  | zero =>
    intro k i h0 h1 hd hk
    obtain ⟨k, rfl⟩ : ∃ m, k = m + 1 := ⟨k - 1, by omega⟩
    simp only [laws_eqStmtS.l0]
    rw [if_neg (by omega)]
  | succ d ih =>
    intro k i h0 h1 hd hk
    obtain ⟨k, rfl⟩ : ∃ m, k = m + 1 := ⟨k - 1, by omega⟩
    simp only [laws_eqStmtS.l0, laws_eqStmt.f, laws_eqExpr.f, if_true, Option.bind_some]
    rw [if_pos (by omega), if_pos h0, if_pos (by omega), w64 (n := i + 1) (by omega) (by omega)]
    exact ih k (i + 1) (by omega) (by omega) (by omega) (by omega)
theorem eqStmt_self (l : List S31) (sz : (l.length : Int) ≤ 140737488351232) : ∀ k, l.length < k → laws_eqStmtS.f k l l = some true := by
  intro k hk
  unfold laws_eqStmtS.f
  rw [if_pos rfl]
  exact eqStmt_loop l sz l.length k 0 (by omega) (by omega) (by omega) hk
theorem sz_tells (l : List S72) (hl : l.length ≤ maxLen) : ∃ t, laws_szStmtS.f l 1048576 = some t ∧ (t < 0 ∨ (l.length : Int) ≤ 1048576) := by
  have hm : (maxLen : Int) ≤ 9223372036854775807 := by decide
  unfold laws_szStmtS.f
  rw [w64 (by omega) (by omega)]
  by_cases c : 1048576 - (l.length : Int) < 0
  · rw [if_pos c]; exact ⟨-1, rfl, Or.inl (by omega)⟩
  · rw [if_neg c]; exact ⟨_, rfl, Or.inr (by omega)⟩
theorem idepth (suf : List S31) : ∀ (k : Nat) (pre y : List S31) (c : Int), y = pre ++ suf → y.length ≤ 1048576 → suf.length + 1 ≤ k → -(pre.length : Int) ≤ c → c ≤ pre.length →
    impl_DepthOf.l0 k c y (y.length : Int) (pre.length : Int) = some (c + tot suf) := by
  induction suf with
  | nil =>
    intro k pre x c hx hz hk d0 d1
    obtain ⟨k, rfl⟩ : ∃ m, k = m + 1 := ⟨k - 1, by omega⟩
    have hl : x.length = pre.length := by simp [hx]
    unfold impl_DepthOf.l0
    rw [if_neg (by omega)]
    unfold tot
    congr 1; omega
  | cons a t ih =>
    intro k pre x c hx hz hk d0 d1
    simp only [List.length_cons] at hk
    obtain ⟨k, rfl⟩ : ∃ m, k = m + 1 := ⟨k - 1, by omega⟩
    have hl : x.length = pre.length + (t.length + 1) := by simp [hx]
    have hr : rd_T31 x (pre.length : Int) = a := by rw [hx]; exact rd_app pre a t
    have hn : ((pre.length : Int) + 1) = (((pre ++ [a]).length : Nat) : Int) := by simp
    have step : ∀ e : Int, -(pre.length : Int) - 1 ≤ e → e ≤ (pre.length : Int) + 1 → impl_DepthOf.l0 k e x (x.length : Int) (wrap64 ((pre.length : Int) + 1)) = some (e + tot t) := by
      intro e e0 e1
      rw [w64 (by omega) (by omega), hn]
      exact ih k (pre ++ [a]) x e (by simp [hx]) hz (by omega) (by omega) (by omega)
    have ht : tot (a :: t) = del a + tot t := rfl
    unfold impl_DepthOf.l0
    rw [if_pos (by omega), if_pos (by omega), if_pos (by omega)]
    simp only [hr]
    rw [opening_eq, ht]
    simp only [Option.bind_some, decide_eq_true_eq]
    by_cases o : a.f0 = 4 ∨ a.f0 = 5
    · have hd : del a = 1 := by unfold del; rw [if_pos o]
      rw [if_pos o, hd, w64 (n := c + 1) (by omega) (by omega), if_neg (by omega), step _ (by omega) (by omega)]
      congr 1; omega
    · rw [if_neg o]
      by_cases c6 : a.f0 = 6
      · have hd : del a = -1 := by unfold del; rw [if_neg o, if_pos c6]
        rw [if_pos c6, hd, w64 (n := c - 1) (by omega) (by omega), step _ (by omega) (by omega)]
        congr 1; omega
      · have hd : del a = 0 := by unfold del; rw [if_neg o, if_neg c6]
        rw [if_neg c6, hd, step _ (by omega) (by omega)]
        congr 1; omega
theorem sdepth (s : List S31) : ∀ (k : Nat) (pre r x : List S31) (c i : Int), x = pre ++ (s ++ r) → x.length ≤ 1048576 → tot x = 0 → 0 ≤ tot pre → i = (pre.length : Int) + s.length → 2 * x.length + s.length + 3 ≤ k → 0 ≤ c → c ≤ pre.length → (∀ p q : List S31, s = p ++ q → 0 ≤ tot pre + tot p) →
    spec_DepthOf.l0 k x i c (pre.length : Int) = some (c + (tot s - mnp s)) := by
  induction s with
  | nil =>
    intro k pre r x c i hx hz ht hp hi hk d0 d1 _
    obtain ⟨k, rfl⟩ : ∃ m, k = m + 1 := ⟨k - 1, by omega⟩
    unfold spec_DepthOf.l0
    simp only [List.length_nil] at hi
    rw [if_neg (by omega)]
    unfold tot mnp
    congr 1; omega
  | cons a s ih =>
    intro k pre r x c i hx hz ht hp hi hk d0 d1 hq
    simp only [List.length_cons] at hk hi
    obtain ⟨k, rfl⟩ : ∃ m, k = m + 1 := ⟨k - 1, by omega⟩
    have hl : x.length = pre.length + (s.length + 1 + r.length) := by simp [hx]; omega
    have hr : rd_T31 x (pre.length : Int) = a := by rw [hx]; exact rd_app pre a (s ++ r)
    have hn : ((pre.length : Int) + 1) = (((pre ++ [a]).length : Nat) : Int) := by simp
    have ht1 : tot [a] = del a := by simp [tot]
    have hpa : tot (pre ++ [a]) = tot pre + del a := by rw [tot_app, ht1]
    have hpn : 0 ≤ tot pre + del a := by have := hq [a] s rfl; rw [ht1] at this; exact this
    have step : ∀ e : Int, 0 ≤ e → e ≤ (pre.length : Int) + 1 → spec_DepthOf.l0 k x i e (wrap64 ((pre.length : Int) + 1)) = some (e + (tot s - mnp s)) := by
      intro e e0 e1
      rw [w64 (by omega) (by omega), hn]
      refine ih k (pre ++ [a]) r x e i (by simp [hx]) hz ht (by omega) (by push_cast; simp; omega) (by omega) e0 (by simp; omega) ?_
      intro p q hpq
      have := hq (a :: p) q (by rw [hpq]; rfl)
      have h3 : tot (a :: p) = del a + tot p := rfl
      omega
    have htc : tot (a :: s) = del a + tot s := rfl
    have hmc : mnp (a :: s) = if del a + mnp s < 0 then del a + mnp s else 0 := rfl
    have hm := mnp_le s
    have hrm := mnp_le r
    unfold spec_DepthOf.l0
    rw [if_pos (by omega), if_pos (by omega), if_pos (by omega)]
    simp only [hr]
    rw [sopens_eq, htc, hmc]
    simp only [Option.bind_some, decide_eq_true_eq]
    by_cases o : a.f0 = 4 ∨ a.f0 = 5
    · have hd : del a = 1 := by unfold del; rw [if_pos o]
      have he := send (a :: (s ++ r)) k pre x 0 hx (by omega) (by simp; omega) (Or.inr ⟨by omega, a, s ++ r, rfl, o⟩) (by omega)
      unfold spec_l05End.f
      rw [if_pos o, he]
      simp only [Option.bind_some]
      have hf : fend (a :: (s ++ r)) 0 (pre.length : Int) = fend (s ++ r) 1 ((pre.length : Int) + 1) := by
        have h0 : fend (a :: (s ++ r)) 0 (pre.length : Int) = if a.f0 = 6 ∧ (0 : Int) = 1 then (pre.length : Int) else fend (s ++ r) (0 + del a) ((pre.length : Int) + 1) := rfl
        rw [h0, if_neg (by omega), hd]; rfl
      rw [hf, hd]
      obtain ⟨f1, f2⟩ := fend_app s r 1 ((pre.length : Int) + 1) (by omega)
      by_cases cm : mnp s + 1 ≤ 0
      · have := f1 cm
        rw [if_neg (by omega), step _ (by omega) (by omega)]
        congr 1
        split <;> omega
      · obtain ⟨g1, g2⟩ := f2 (by omega)
        have hx2 : tot x = tot pre + (del a + (tot s + tot r)) := by
          rw [hx, tot_app]
          have h4 : tot (a :: s ++ r) = del a + tot (s ++ r) := rfl
          rw [h4, tot_app]
        obtain ⟨e1, _⟩ := fend_app r [] (1 + tot s) ((pre.length : Int) + 1 + s.length) g2
        rw [List.append_nil] at e1
        have e2 := e1 (by omega)
        rw [g1, if_pos (by omega), w64 (n := c + 1) (by omega) (by omega), step _ (by omega) (by omega)]
        congr 1
        split <;> omega
    · have hd : del a ≤ 0 := by unfold del; rw [if_neg o]; split <;> omega
      rw [if_neg o, step _ (by omega) (by omega)]
      congr 1
      split <;> omega
theorem FnExactDepthOf : laws_FnExactDepthOf.Pure := by
  intro l i hl _ wi
  have hw := wf64 wi
  obtain ⟨t, et, ht⟩ := sz_tells l hl
  refine ⟨4 * l.length + 20, ?_⟩
  unfold laws_FnExactDepthOf.f
  rw [et]
  simp only [Option.bind_some]
  by_cases c : t < 0
  · rw [if_pos c]
  · rw [if_neg c]
    have sz : (l.length : Int) ≤ 1048576 := by omega
    rw [toStmt_tells l sz _ (by omega)]
    simp only [Option.bind_some]
    have hz : (l.map cnv).length = l.length := List.length_map ..
    have eq := eqStmt_self (l.map cnv) (by omega) (4 * l.length + 20) (by omega)
    generalize l.map cnv = x at *
    have key : ∃ r, spec_DepthOf.f (4 * l.length + 20) x i = some r ∧ impl_DepthOf.f (4 * l.length + 20) x i = some r := by
      unfold spec_DepthOf.f impl_DepthOf.f
      rw [sblock x (by omega) _ (by omega), iblock x (by omega) _ (by omega)]
      simp only [Option.bind_some]
      have sj : ∀ b : Bool, spec_DepthOf.j0 (4 * l.length + 20) x i b = if b = true then some (-1) else spec_DepthOf.l0 (4 * l.length + 19) x i 0 0 := fun b => by simp only [spec_DepthOf.j0]
      have ij : ∀ b : Bool, impl_DepthOf.j0 (4 * l.length + 20) x i b = if b = true then some (-1) else (if 0 ≤ i then (if i ≤ (x.length : Int) then (impl_DepthOf.l0 (4 * l.length + 19) 0 (x.take i.toNat) ((x.take i.toNat).length : Int) 0) else none) else none) := fun b => by simp only [impl_DepthOf.j0, Option.bind_some]
      by_cases b : blk x = true
      · rw [if_pos b, if_pos b, w64 (by omega) (by omega), in_eq, within_eq]
        simp only [Option.bind_some]
        rw [sj, ij]
        by_cases c2 : 0 ≤ i ∧ i ≤ (x.length : Int) - 1
        · rw [decide_eq_true c2, if_neg (by simp), if_neg (by simp), if_pos c2.1, if_pos (by omega)]
          have hs := blk_scan b
          have hx : x = x.take i.toNat ++ x.drop i.toNat := (List.take_append_drop ..).symm
          have hlt : (x.take i.toNat).length = i.toNat := by rw [List.length_take]; omega
          have h1 := idepth (x.take i.toNat) (4 * l.length + 19) [] (x.take i.toNat) 0 rfl (by omega) (by omega) (by simp) (by simp)
          have hsc : ∀ p q : List S31, x.take i.toNat = p ++ q → 0 ≤ mnp p := by
            intro p q hpq
            have h5 := scan_app p (q ++ x.drop i.toNat) 0 0 (by omega) (by omega) (by rw [← List.append_assoc, ← hpq, ← hx]; exact hs.1)
            omega
          have hm := hsc (x.take i.toNat) [] (by simp)
          have h2 := sdepth (x.take i.toNat) (4 * l.length + 19) [] (x.drop i.toNat) x 0 i hx (by omega) (blk_tot b) (by simp [tot]) (by simp; omega) (by omega) (by omega) (by simp) (by
            intro p q hpq
            have h6 := hsc p q hpq
            have h7 := mnp_le p
            have h8 : tot ([] : List S31) = 0 := rfl
            omega)
          have h9 := mnp_le (x.take i.toNat)
          have h10 : ((([] : List S31).length : Nat) : Int) = 0 := rfl
          rw [h10] at h1 h2
          rw [h1, h2]
          exact ⟨_, rfl, by congr 1; omega⟩
        · rw [decide_eq_false c2, if_pos (by simp), if_pos (by simp)]; exact ⟨_, rfl, rfl⟩
      · rw [if_neg b, if_neg b, sj, ij]; exact ⟨_, rfl, rfl⟩
    obtain ⟨r, h1, h2⟩ := key
    rw [h1, h2]
    simp only [Option.bind_some, if_true]
    rw [eq]
    simp

end Go.Proofs.Ytkjdhmffknahgaa.Pure
