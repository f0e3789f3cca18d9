/- In a drawn program only what a task may write is logged, a task is restartable just when it logs nothing, and the room is enough for every task, at every draw; no condition. -/
import Derived.Test.YtlhcofkandeepaaPFnLogsx10
import Derived.Lib.SlicesCompact
namespace Go.Proofs.Ytlhcofkandeepaa.Pure
open Go.RowKit Go.Proofs.Ytlhcofkandeepaa.PFnLogs Go.Proofs.YtlhcofkandeepaaW.PrintWords Go.Proofs.YtlhcofkandeepaaW.PrintLast
set_option linter.unusedVariables false
set_option linter.unusedSimpArgs false

theorem w64 {n : Int} (h1 : -9223372036854775808 ≤ n) (h2 : n ≤ 9223372036854775807) : wrap64 n = n := by unfold wrap64; omega
theorem w64_in (n : Int) : -9223372036854775808 ≤ wrap64 n ∧ wrap64 n ≤ 9223372036854775807 := by unfold wrap64; omega
theorem wf64 {n : Int} (h : (Lit.int .i64 n).wf = true) : -9223372036854775808 ≤ n ∧ n ≤ 9223372036854775807 := by
  simp only [Lit.wf, IntKind.min, IntKind.max, IntKind.signed, IntKind.bits, Bool.and_eq_true, decide_eq_true_eq, if_true] at h
  omega
theorem wfu8 {n : Int} (h : (Lit.int .u8 n).wf = true) : 0 ≤ n ∧ n ≤ 255 := by
  simp [Lit.wf, IntKind.min, IntKind.max, IntKind.signed, IntKind.bits] at h
  omega
theorem and_in (x : Int) (m : Nat) (hm : m < 9223372036854775808) : 0 ≤ Go.bits .and .i64 x (m : Int) ∧ Go.bits .and .i64 x (m : Int) ≤ m := by
  have h1 : (BitVec.ofInt 64 x &&& BitVec.ofInt 64 (m : Int)).toNat ≤ m := by
    rw [BitVec.toNat_and]
    refine Nat.le_trans Nat.and_le_right ?_
    rw [BitVec.ofInt_natCast, BitVec.toNat_ofNat]
    exact Nat.mod_le _ _
  have h2 : Go.bits .and .i64 x (m : Int) = IntKind.i64.wrap (((BitVec.ofInt 64 x &&& BitVec.ofInt 64 (m : Int)).toNat : Nat) : Int) := rfl
  rw [h2, Go.IntKind.wrap_i64]
  omega
theorem and255 (x : Int) : 0 ≤ Go.bits .and .i64 x 255 ∧ Go.bits .and .i64 x 255 ≤ 255 := and_in x 255 (by decide)
theorem tmod_in (x n : Int) (h0 : 0 ≤ x) (h : 1 ≤ n) : 0 ≤ Int.tmod x n ∧ Int.tmod x n < n := ⟨Int.tmod_nonneg _ h0, Int.tmod_lt_of_pos _ (by omega)⟩
theorem within_eq (a b c : Int) : impl_within.f a b c = some (decide (b ≤ a ∧ a ≤ c)) := by
  unfold impl_within.f
  by_cases h : a ≥ b
  · rw [if_pos h]; simp; omega
  · rw [if_neg h]; simp; omega
/-- The place of a cursor lies in its bytes. -/
structure OkC (l : List Int) (i : Int) : Prop where
  lo : 0 ≤ i
  hi : i ≤ l.length
  sz : (l.length : Int) ≤ 140737488351232
theorem byte_tells {l : List Int} {i : Int} (h : Int) (ok : OkC l i) : ∃ x i' h', spec_l01Byte.f l i h = some (x, i', h') ∧ OkC l i' ∧ 0 ≤ x ∧ x ≤ 255 := by
  obtain ⟨lo, hi, sz⟩ := ok
  unfold spec_l01Byte.f
  by_cases h1 : i < (l.length : Int)
  · rw [if_pos h1, if_pos lo]
    refine ⟨_, _, _, rfl, ?_, and255 _⟩
    rw [w64 (by omega) (by omega)]
    exact ⟨by omega, by omega, sz⟩
  · rw [if_neg h1]
    exact ⟨_, _, _, rfl, ⟨lo, hi, sz⟩, and255 _⟩
theorem below_tells {l : List Int} {i : Int} (h n : Int) (ok : OkC l i) (hn : 1 ≤ n) : ∃ x i' h', spec_l01Below.f l i h n = some (x, i', h') ∧ OkC l i' ∧ 0 ≤ x ∧ x < n := by
  unfold spec_l01Below.f
  rw [if_neg (by omega)]
  by_cases h1 : n ≤ 256
  · rw [if_pos h1]
    obtain ⟨x, i1, g1, e1, ok1, x0, x1⟩ := byte_tells h ok
    rw [e1]
    simp only [Option.bind_some]
    rw [if_neg (by omega)]
    exact ⟨_, _, _, rfl, ok1, tmod_in _ _ x0 hn⟩
  · rw [if_neg h1]
    obtain ⟨x, i1, g1, e1, ok1, x0, x1⟩ := byte_tells h ok
    obtain ⟨y, i2, g2, e2, ok2, y0, y1⟩ := byte_tells g1 ok1
    obtain ⟨z, i3, g3, e3, ok3, z0, z1⟩ := byte_tells g2 ok2
    obtain ⟨v, i4, g4, e4, ok4, v0, v1⟩ := byte_tells g3 ok3
    rw [e1]; simp only [Option.bind_some]
    rw [e2]; simp only [Option.bind_some]
    rw [e3]; simp only [Option.bind_some]
    rw [e4]; simp only [Option.bind_some]
    rw [if_neg (by omega)]
    refine ⟨_, _, _, rfl, ok4, tmod_in _ _ ?_ hn⟩
    rw [w64 (n := x * 16777216) (by omega) (by omega), w64 (n := y * 65536) (by omega) (by omega), w64 (n := z * 256) (by omega) (by omega)]
    rw [w64 (n := x * 16777216 + y * 65536) (by omega) (by omega), w64 (n := x * 16777216 + y * 65536 + z * 256) (by omega) (by omega)]
    rw [w64 (by omega) (by omega)]
    omega
theorem once_tells {l : List Int} {i : Int} (h n : Int) (ok : OkC l i) (hn : 1 ≤ n) : ∃ x i' h', spec_l01Once.f l i h n = some (x, i', h') ∧ OkC l i' := by
  obtain ⟨x, i1, g1, e1, ok1, _⟩ := below_tells h n ok hn
  unfold spec_l01Once.f
  rw [e1]
  exact ⟨_, _, _, rfl, ok1⟩
theorem rd_mem (xs : List Int) (i : Int) (h0 : 0 ≤ i) (h1 : i < (xs.length : Int)) : rd xs i ∈ xs := by
  have h : i.toNat < xs.length := by omega
  unfold Go.Proofs.YtlhcofkandeepaaW.PrintWords.rd
  rw [List.getD_eq_getElem?_getD, List.getElem?_eq_getElem h]
  exact List.getElem_mem h
theorem pick_tells {l : List Int} {i : Int} (h : Int) (xs : List Int) (ok : OkC l i) (hn : 1 ≤ xs.length) : ∃ x i' h', spec_l01PickInt.f l i h xs = some (x, i', h') ∧ OkC l i' ∧ x ∈ xs := by
  obtain ⟨x, i1, g1, e1, ok1, x0, x1⟩ := below_tells h (xs.length : Int) ok (by omega)
  unfold spec_l01PickInt.f
  rw [e1]
  simp only [Option.bind_some]
  rw [if_pos x0, if_pos x1]
  exact ⟨_, _, _, rfl, ok1, rd_mem xs x x0 x1⟩
theorem new_loop (l : List Int) (sz : (l.length : Int) ≤ 140737488351232) (d : Nat) : ∀ (k : Nat) (h i : Int), 0 ≤ i → i ≤ l.length → (l.length : Int) - i = d → d < k → ∃ g, spec_l01New.l0 k l h i = some (l, 0, g) := by
  induction d with
  | zero =>
    intro k h i h0 h1 hd hk
    obtain ⟨k, rfl⟩ : ∃ m, k = m + 1 := ⟨k - 1, by omega⟩
    exact ⟨h, by simp only [spec_l01New.l0]; rw [if_neg (by omega)]⟩
  | succ d ih =>
    intro k h i h0 h1 hd hk
    obtain ⟨k, rfl⟩ : ∃ m, k = m + 1 := ⟨k - 1, by omega⟩
    simp only [spec_l01New.l0]
    rw [if_pos (by omega)]
    by_cases c : i < 4000
    · rw [if_pos c, if_pos h0, w64 (n := i + 1) (by omega) (by omega)]
      exact ih k _ (i + 1) (by omega) (by omega) (by omega) (by omega)
    · rw [if_neg c]; exact ⟨h, rfl⟩
theorem new_tells (l : List Int) (sz : (l.length : Int) ≤ 140737488351232) : ∃ g, ∀ k, l.length < k → spec_l01New.f k l = some (l, 0, g) := by
  obtain ⟨g, e⟩ := new_loop l sz l.length (l.length + 1) (wrap64 (98347 + (l.length : Int))) 0 (by omega) (by omega) (by omega) (by omega)
  exact ⟨g, fun k hk => at_rounds (fun k => spec_l01New.mono l k) (by omega : l.length + 1 ≤ k) e⟩
theorem ok_start {l : List Int} (sz : (l.length : Int) ≤ 140737488351232) : OkC l 0 := ⟨by omega, by omega, sz⟩
/-- A valid expression. -/
def eok (o a b : Int) : Bool := decide (1 ≤ o ∧ o ≤ 7) && (decide (-8 ≤ a ∧ a ≤ 999) && decide (-8 ≤ b ∧ b ≤ 999))
theorem iexpr (o a b : Int) : impl_ExprOk.f o a b = some (eok o a b) := by
  unfold impl_ExprOk.f impl_OperandOk.f eok
  simp only [within_eq, Option.bind_some]
  cases decide (1 ≤ o ∧ o ≤ 7) <;> cases decide (-8 ≤ a ∧ a ≤ 999) <;> simp
theorem eok_in {o a b : Int} (h : eok o a b = true) : (1 ≤ o ∧ o ≤ 7) ∧ (-8 ≤ a ∧ a ≤ 999) ∧ (-8 ≤ b ∧ b ≤ 999) := by
  unfold eok at h
  simp only [Bool.and_eq_true, decide_eq_true_eq] at h
  exact h
/-- A valid statement. -/
def zok (o a b : Int) : Bool := decide (o = 0) && (decide (a = 0) && decide (b = 0))
def sok (c v n o a b : Int) : Bool :=
  if c = 1 then decide (0 ≤ v ∧ v ≤ 7) && (decide (n = 0) && eok o a b)
  else if c = 2 then decide (0 ≤ v ∧ v ≤ 7) && (decide (0 ≤ n ∧ n ≤ 3) && zok o a b)
  else if c = 3 then decide (v = 0) && (decide (n = 0) && eok o a b)
  else if c = 4 then decide (v = 0) && (decide (n = 0) && eok o a b)
  else if c = 5 then decide (v = 0) && (decide (1 ≤ n ∧ n ≤ 5) && zok o a b)
  else if c = 6 then decide (v = 0) && (decide (n = 0) && zok o a b)
  else false
theorem hasVar_eq (c : Int) : impl_hasVar.f c = some (decide (c = 1 ∨ c = 2)) := by
  unfold impl_hasVar.f
  by_cases h : c = 1
  · rw [if_pos h]; simp [h]
  · rw [if_neg h]; simp [h]; rfl
theorem hasExpr_eq (c : Int) : impl_hasExpr.f c = some (decide (c = 1 ∨ c = 3 ∨ c = 4)) := by
  unfold impl_hasExpr.f
  by_cases h : c = 1
  · rw [if_pos h]; simp [h]
  · rw [if_neg h]
    by_cases h2 : c = 3
    · rw [if_pos h2]; simp [h2]
    · rw [if_neg h2]; simp [h, h2]; rfl
theorem isVar_eq (v : Int) : impl_isVar.f v = some (decide (0 ≤ v ∧ v ≤ 7)) := by
  unfold impl_isVar.f; rw [within_eq]; rfl
theorem isSensor_eq (v : Int) : impl_isSensor.f v = some (decide (0 ≤ v ∧ v ≤ 3)) := by
  unfold impl_isSensor.f; rw [within_eq]; rfl
theorem istmt (c v n o a b : Int) (k : Nat) (hk : 2 ≤ k) : impl_StmtOk.f k c v n o a b = some (sok c v n o a b) := by
  obtain ⟨k, rfl⟩ : ∃ m, k = m + 2 := ⟨k - 2, by omega⟩
  unfold impl_StmtOk.f sok zok
  simp only [within_eq, hasVar_eq, isVar_eq, hasExpr_eq, isSensor_eq, iexpr, Option.bind_some, impl_StmtOk.j0, impl_StmtOk.j1]
  by_cases h1 : c = 1
  · subst h1
    cases decide (0 ≤ v ∧ v ≤ 7) <;> cases eok o a b <;> by_cases hn : n = 0 <;> simp [hn]
  · by_cases h2 : c = 2
    · subst h2
      cases decide (0 ≤ v ∧ v ≤ 7) <;> cases decide (0 ≤ n ∧ n ≤ 3) <;> by_cases ho : o = 0 <;> by_cases ha : a = 0 <;> by_cases hb : b = 0 <;> simp [ho, ha, hb]
    · by_cases h3 : c = 3
      · subst h3
        cases eok o a b <;> by_cases hn : n = 0 <;> by_cases hv : v = 0 <;> simp [hn, hv]
      · by_cases h4 : c = 4
        · subst h4
          cases eok o a b <;> by_cases hn : n = 0 <;> by_cases hv : v = 0 <;> simp [hn, hv]
        · by_cases h5 : c = 5
          · subst h5
            cases decide (1 ≤ n ∧ n ≤ 5) <;> by_cases hv : v = 0 <;> by_cases ho : o = 0 <;> by_cases ha : a = 0 <;> by_cases hb : b = 0 <;> simp [hv, ho, ha, hb]
          · by_cases h6 : c = 6
            · subst h6
              by_cases hn : n = 0 <;> by_cases hv : v = 0 <;> by_cases ho : o = 0 <;> by_cases ha : a = 0 <;> by_cases hb : b = 0 <;> simp [hn, hv, ho, ha, hb]
            · have hw : ¬ (1 ≤ c ∧ c ≤ 6) := by omega
              simp [h1, h2, h3, h4, h5, h6, hw]
theorem rd_app (pre : List S39) (a : S39) (t : List S39) : rd_T39 (pre ++ a :: t) (pre.length : Int) = a := by
  unfold rd_T39
  simp [List.getD]
def okS (s : S39) : Bool := sok s.f0 s.f1 s.f2 s.f3.f0 s.f3.f1 s.f3.f2
def opn (s : S39) : Bool := decide (s.f0 = 4 ∨ s.f0 = 5)
def del (s : S39) : Int := if s.f0 = 4 ∨ s.f0 = 5 then 1 else if s.f0 = 6 then -1 else 0
theorem del_in (s : S39) : -1 ≤ del s ∧ del s ≤ 1 := by unfold del; split <;> (try split) <;> omega
def scan : List S39 → Int → Option Int
  | [], d => some d
  | s :: t, d => if okS s = true then (if 0 ≤ d + del s ∧ d + del s ≤ 3 then scan t (d + del s) else none) else none
def fin (o : Option Int) (n : Nat) : Bool := decide (o = some 0) && decide (n ≤ 24)
/-- Whether the statements are a valid block. -/
def blk (l : List S39) : Bool := fin (scan l 0) l.length
theorem opening_eq (c : Int) : impl_isOpening.f c = some (decide (c = 4 ∨ c = 5)) := by
  unfold impl_isOpening.f
  by_cases h : c = 4
  · simp [h]
  · rw [if_neg h]; congr 1; rw [Bool.eq_iff_iff]; simp [h]
theorem iscan (suf : List S39) : ∀ (k : Nat) (pre x : List S39) (d : Int), x = pre ++ suf → x.length ≤ 140737488351232 → 2 * suf.length + 4 ≤ k → 0 ≤ d → d ≤ 3 →
    impl_BlockOk.l0 k x d x (x.length : Int) (pre.length : Int) = some (fin (scan suf d) x.length) := by
  induction suf with
  | nil =>
    intro k pre x d hx hz hk d0 d1
    obtain ⟨k, rfl⟩ : ∃ m, k = m + 1 := ⟨k - 1, by omega⟩
    have hl : x.length = pre.length := by simp [hx]
    unfold impl_BlockOk.l0
    rw [if_neg (by omega)]
    unfold scan fin
    by_cases c : d = 0
    · rw [if_pos c, c]; congr 1; simp; omega
    · rw [if_neg c]; simp [c]
  | cons a t ih =>
    intro k pre x d hx hz hk d0 d1
    simp only [List.length_cons] at hk
    obtain ⟨k, rfl⟩ : ∃ m, k = m + 2 := ⟨k - 2, by omega⟩
    have hl : x.length = pre.length + (t.length + 1) := by simp [hx]
    have hr : rd_T39 x (pre.length : Int) = a := by rw [hx]; exact rd_app pre a t
    have hn : ((pre.length : Int) + 1) = (((pre ++ [a]).length : Nat) : Int) := by simp
    unfold impl_BlockOk.l0
    rw [if_pos (by omega), if_pos (by omega), if_pos (by omega)]
    simp only [hr]
    rw [istmt _ _ _ _ _ _ _ (by omega)]
    simp only [Option.bind_some]
    have hs : ∀ e, scan (a :: t) e = if okS a = true then (if 0 ≤ e + del a ∧ e + del a ≤ 3 then scan t (e + del a) else none) else none := fun e => rfl
    rw [hs]
    by_cases ok : okS a = true
    · rw [if_pos ok]
      unfold okS at ok
      rw [if_pos ok, opening_eq]
      simp only [Option.bind_some, decide_eq_true_eq]
      have step : ∀ e : Int, 0 ≤ e → e ≤ 3 → impl_BlockOk.l0 k x e x (x.length : Int) (wrap64 ((pre.length : Int) + 1)) = some (fin (scan t e) x.length) := by
        intro e e0 e1
        rw [w64 (by omega) (by omega), hn]
        exact ih k (pre ++ [a]) x e (by simp [hx]) hz (by omega) e0 e1
      by_cases o : a.f0 = 4 ∨ a.f0 = 5
      · have hd : del a = 1 := by unfold del; rw [if_pos o]
        rw [if_pos o, hd, w64 (n := d + 1) (by omega) (by omega)]
        unfold impl_BlockOk.j1
        rw [if_neg (by omega), if_neg (by omega)]
        by_cases c : d + 1 > 3
        · rw [if_pos c, if_neg (by omega)]; simp [fin]
        · rw [if_neg c, if_pos (by omega)]
          exact step _ (by omega) (by omega)
      · rw [if_neg o]
        unfold impl_BlockOk.j1
        by_cases c6 : a.f0 = 6
        · have hd : del a = -1 := by unfold del; rw [if_neg o, if_pos c6]
          rw [if_pos c6, hd, w64 (n := d - 1) (by omega) (by omega)]
          by_cases c : d - 1 < 0
          · rw [if_pos c, if_neg (by omega)]; simp [fin]
          · rw [if_neg c, if_neg (by omega), if_pos (by omega)]
            exact step _ (by omega) (by omega)
        · have hd : del a = 0 := by unfold del; rw [if_neg o, if_neg c6]
          rw [if_neg c6, hd, if_neg (by omega), if_neg (by omega), if_pos (by omega), show d + 0 = d by omega]
          exact step _ (by omega) (by omega)
    · rw [if_neg ok]
      unfold okS at ok
      rw [if_neg ok]
      simp [fin]
theorem iblock (l : List S39) (hz : l.length ≤ 140737488351232) (k : Nat) (hk : 2 * l.length + 4 ≤ k) : impl_BlockOk.f k l = some (blk l) :=
  iscan l k [] l 0 rfl hz hk (by omega) (by omega)
theorem operand_in {l : List Int} {i : Int} (h : Int) (ok : OkC l i) : ∃ x i' h', spec_l03Operand.f l i h = some (x, i', h') ∧ OkC l i' ∧ -8 ≤ x ∧ x ≤ 999 := by
  unfold spec_l03Operand.f
  obtain ⟨b, i1, g1, e1, ok1⟩ := once_tells h 2 ok (by omega)
  rw [e1]
  simp only [Option.bind_some]
  by_cases c : b = true
  · rw [if_pos c]
    obtain ⟨x, i2, g2, e2, ok2, x0, x1⟩ := below_tells g1 5 ok1 (by omega)
    rw [e2]
    simp only [Option.bind_some]
    rw [w64 (by omega) (by omega)]
    exact ⟨_, _, _, rfl, ok2, by omega, by omega⟩
  · rw [if_neg c]
    obtain ⟨x, i2, g2, e2, ok2, hx⟩ := pick_tells g1 [0, 1, 2, 3, 10, 999] ok1 (by decide)
    rw [e2]
    simp only [Option.bind_some]
    refine ⟨_, _, _, rfl, ok2, ?_⟩
    simp only [List.mem_cons, List.not_mem_nil, or_false] at hx
    omega
theorem expr_in {l : List Int} {i : Int} (h : Int) (ok : OkC l i) : ∃ o a b i' h', spec_l03Expr.f l i h = some (o, a, b, i', h') ∧ OkC l i' ∧ eok o a b = true := by
  unfold spec_l03Expr.f
  obtain ⟨x, i1, g1, e1, ok1, x0, x1⟩ := below_tells h 7 ok (by omega)
  obtain ⟨a, i2, g2, e2, ok2, a0, a1⟩ := operand_in g1 ok1
  obtain ⟨b, i3, g3, e3, ok3, b0, b1⟩ := operand_in g2 ok2
  rw [e1]
  simp only [Option.bind_some]
  rw [e2]
  simp only [Option.bind_some]
  rw [e3]
  simp only [Option.bind_some]
  rw [w64 (by omega) (by omega)]
  refine ⟨_, _, _, _, _, rfl, ok3, ?_⟩
  unfold eok
  simp
  omega
/-- A valid statement that neither opens nor closes. -/
def plain (c v n o a b : Int) : Prop := sok c v n o a b = true ∧ c ≠ 4 ∧ c ≠ 5 ∧ c ≠ 6
theorem stmt_in {l : List Int} {i : Int} (h : Int) (ok : OkC l i) (k : Nat) (hk : 1 ≤ k) : ∃ c v n o a b i' h', spec_l04Stmt.f k l i h = some (c, v, n, o, a, b, i', h') ∧ OkC l i' ∧ plain c v n o a b := by
  obtain ⟨k, rfl⟩ : ∃ m, k = m + 1 := ⟨k - 1, by omega⟩
  have hj : ∀ (x : Int) (f : Bool) (i1 g1 : Int), OkC l i1 → ∃ c v n o a b i' h', spec_l04Stmt.j0 (k + 1) x f l i1 g1 = some (c, v, n, o, a, b, i', h') ∧ OkC l i' ∧ plain c v n o a b := by
    intro x f i1 g1 ok1
    simp only [spec_l04Stmt.j0]
    by_cases cf : f = true
    · rw [if_pos cf]
      obtain ⟨v, i2, g2, e2, ok2, v0, v1⟩ := below_tells g1 5 ok1 (by omega)
      obtain ⟨n, i3, g3, e3, ok3, n0, n1⟩ := below_tells g2 4 ok2 (by omega)
      rw [e2]
      simp only [Option.bind_some]
      rw [e3]
      simp only [Option.bind_some]
      refine ⟨_, _, _, _, _, _, _, _, rfl, ok3, ?_, by omega, by omega, by omega⟩
      unfold sok zok
      simp
      omega
    · rw [if_neg cf]
      by_cases c2 : x = 2
      · rw [if_pos c2]
        obtain ⟨o, a, b, i2, g2, e2, ok2, he⟩ := expr_in g1 ok1
        rw [e2]
        simp only [Option.bind_some]
        refine ⟨_, _, _, _, _, _, _, _, rfl, ok2, ?_, by omega, by omega, by omega⟩
        unfold sok
        simp [he]
      · rw [if_neg c2]
        obtain ⟨v, i2, g2, e2, ok2, v0, v1⟩ := below_tells g1 5 ok1 (by omega)
        obtain ⟨o, a, b, i3, g3, e3, ok3, he⟩ := expr_in g2 ok2
        rw [e2]
        simp only [Option.bind_some]
        rw [e3]
        simp only [Option.bind_some]
        refine ⟨_, _, _, _, _, _, _, _, rfl, ok3, ?_, by omega, by omega, by omega⟩
        unfold sok
        simp [he]
        omega
  unfold spec_l04Stmt.f
  obtain ⟨x, i1, g1, e1, ok1, x0, x1⟩ := below_tells h 7 ok (by omega)
  rw [e1]
  simp only [Option.bind_some]
  by_cases c : x = 0
  · rw [if_pos c]; exact hj _ _ _ _ ok1
  · rw [if_neg c]; exact hj _ _ _ _ ok1
/-- Statements that may lie in any block, m levels of opening high. -/
def Good (b : List S39) (m : Int) : Prop := ∀ (r : List S39) (d : Int), 0 ≤ d → d + m ≤ 3 → scan (b ++ r) d = scan r d
theorem good_nil (m : Int) : Good [] m := fun r d _ _ => rfl
theorem good_app {b c : List S39} {m : Int} (hb : Good b m) (hc : Good c m) : Good (b ++ c) m := by
  intro r d h0 h1
  rw [List.append_assoc, hb _ d h0 h1, hc r d h0 h1]
theorem scan_cons (s : S39) (t : List S39) (d : Int) : scan (s :: t) d = if okS s = true then (if 0 ≤ d + del s ∧ d + del s ≤ 3 then scan t (d + del s) else none) else none := rfl
theorem good_plain {c v n o a b : Int} (h : plain c v n o a b) {m : Int} (hm : 0 ≤ m) : Good [(⟨c, v, n, ⟨o, a, b⟩⟩ : S39)] m := by
  intro r d h0 h1
  obtain ⟨h2, h3, h4, h5⟩ := h
  have hd : del (⟨c, v, n, ⟨o, a, b⟩⟩ : S39) = 0 := by unfold del; simp [h3, h4, h5]
  have ho : okS (⟨c, v, n, ⟨o, a, b⟩⟩ : S39) = true := h2
  show scan ((⟨c, v, n, ⟨o, a, b⟩⟩ : S39) :: r) d = scan r d
  rw [scan_cons, if_pos ho, hd, if_pos (by omega), show d + 0 = d by omega]
theorem good_wrap {c v n o a b : Int} (h : sok c v n o a b = true) (h4 : c = 4 ∨ c = 5) {q : List S39} {m : Int} (hm : 0 ≤ m) (hq : Good q m) : Good ((⟨c, v, n, ⟨o, a, b⟩⟩ : S39) :: (q ++ [(⟨6, 0, 0, ⟨0, 0, 0⟩⟩ : S39)])) (m + 1) := by
  intro r d h0 h1
  have hd : del (⟨c, v, n, ⟨o, a, b⟩⟩ : S39) = 1 := by unfold del; rw [if_pos h4]
  have ho : okS (⟨c, v, n, ⟨o, a, b⟩⟩ : S39) = true := h
  have hd2 : del (⟨6, 0, 0, ⟨0, 0, 0⟩⟩ : S39) = -1 := by decide
  have ho2 : okS (⟨6, 0, 0, ⟨0, 0, 0⟩⟩ : S39) = true := by decide
  show scan ((⟨c, v, n, ⟨o, a, b⟩⟩ : S39) :: ((q ++ [(⟨6, 0, 0, ⟨0, 0, 0⟩⟩ : S39)]) ++ r)) d = scan r d
  rw [scan_cons, if_pos ho, hd, if_pos (by omega), List.append_assoc, hq _ _ (by omega) (by omega)]
  show scan ((⟨6, 0, 0, ⟨0, 0, 0⟩⟩ : S39) :: r) (d + 1) = scan r d
  rw [scan_cons, if_pos ho2, hd2, if_pos (by omega), show d + 1 + -1 = d by omega]
/-- How long a block may be behind i draws, h levels below the innermost. -/
def cap (h : Nat) (i : Int) : Int := if h = 0 then i else if h = 1 then 4 * i else 15 + i
theorem block_in {l : List Int} (h : Nat) : h ≤ 2 → ∀ (k : Nat) (i g n : Int), OkC l i → 0 ≤ n → n ≤ (if h = 2 then 5 else 2) → 2 * n + 6 + 5 * h ≤ k → ∃ b i' g', spec_l05Block.f k l i g n (2 - (h : Int)) = some (b, i', g') ∧ OkC l i' ∧ Good b h ∧ (b.length : Int) ≤ cap h n := by
  induction h with
  | zero =>
    intro _ k i g n ok n0 n1 hk
    simp only [Nat.zero_ne_add_one, if_false] at n1
    have hl : ∀ (d : Nat) (k : Nat) (x : List S39) (j i g : Int), OkC l i → 0 ≤ j → n - j = d → 2 * (d : Int) + 5 ≤ k → Good x ((0 : Nat) : Int) → (x.length : Int) ≤ j → ∃ b i' g', spec_l05Block.l0 k n (2 - ((0 : Nat) : Int)) x j l i g = some (b, i', g') ∧ OkC l i' ∧ Good b ((0 : Nat) : Int) ∧ (b.length : Int) ≤ n := by
      intro d
      induction d with
      | zero =>
        intro k x j i g ok j0 hd hk hg hx
        obtain ⟨k, rfl⟩ : ∃ m, k = m + 1 := ⟨k - 1, by omega⟩
        simp only [spec_l05Block.l0]
        rw [if_neg (by omega)]
        exact ⟨_, _, _, rfl, ok, hg, by omega⟩
      | succ d ih =>
        intro k x j i g ok j0 hd hk hg hx
        obtain ⟨k, rfl⟩ : ∃ m, k = m + 2 := ⟨k - 2, by omega⟩
        obtain ⟨c, v, q, o, a, b, i1, g1, e1, ok1, hp⟩ := stmt_in g ok k (by omega)
        simp only [spec_l05Block.l0]
        rw [if_pos (by omega), if_neg (by omega)]
        simp only [spec_l05Block.j1, Bool.false_eq_true, if_false]
        rw [e1]
        simp only [Option.bind_some]
        rw [if_pos (by omega), w64 (n := j + 1) (by omega) (by omega)]
        exact ih k _ (j + 1) i1 g1 ok1 (by omega) (by omega) (by omega) (good_app hg (good_plain hp (by omega))) (by simp; omega)
    obtain ⟨k, rfl⟩ : ∃ m, k = m + 1 := ⟨k - 1, by omega⟩
    unfold spec_l05Block.f
    obtain ⟨b, i', g', e, ok', hg, hb⟩ := hl n.toNat k [] 0 i g ok (by omega) (by omega) (by omega) (good_nil _) (by simp)
    exact ⟨b, i', g', e, ok', hg, by unfold cap; rw [if_pos rfl]; exact hb⟩
  | succ h ihh =>
    intro hh k i g n ok n0 n1 hk
    have n5 : n ≤ 5 := by revert n1; split <;> omega
    have hl : ∀ (d : Nat) (k : Nat) (x : List S39) (j i g : Int), OkC l i → 0 ≤ j → n - j = d → 2 * (d : Int) + 5 + 5 * ((h : Int) + 1) ≤ k → Good x ((h + 1 : Nat) : Int) → (x.length : Int) ≤ cap (h + 1) j → ∃ b i' g', spec_l05Block.l0 k n (2 - ((h + 1 : Nat) : Int)) x j l i g = some (b, i', g') ∧ OkC l i' ∧ Good b ((h + 1 : Nat) : Int) ∧ (b.length : Int) ≤ cap (h + 1) n := by
      intro d
      induction d with
      | zero =>
        intro k x j i g ok j0 hd hk hg hx
        obtain ⟨k, rfl⟩ : ∃ m, k = m + 1 := ⟨k - 1, by omega⟩
        have e : j = n := by omega
        subst e
        simp only [spec_l05Block.l0]
        rw [if_neg (by omega)]
        exact ⟨_, _, _, rfl, ok, hg, hx⟩
      | succ d ih =>
        intro k x j i g ok j0 hd hk hg hx
        obtain ⟨k, rfl⟩ : ∃ m, k = m + 2 := ⟨k - 2, by omega⟩
        have xb : (x.length : Int) ≤ 100 := by revert hx; unfold cap; split <;> (try split) <;> omega
        have hplain : ∀ i g, OkC l i → ∃ b i' g', spec_l05Block.j1 (k + 1) n (2 - ((h + 1 : Nat) : Int)) x j false l i g = some (b, i', g') ∧ OkC l i' ∧ Good b ((h + 1 : Nat) : Int) ∧ (b.length : Int) ≤ cap (h + 1) n := by
          intro i g ok
          obtain ⟨c, v, q, o, a, b, i1, g1, e1, ok1, hp⟩ := stmt_in g ok k (by omega)
          simp only [spec_l05Block.j1, Bool.false_eq_true, if_false]
          rw [e1]
          simp only [Option.bind_some]
          rw [if_pos (by omega), w64 (n := j + 1) (by omega) (by omega)]
          refine ih k _ (j + 1) i1 g1 ok1 (by omega) (by omega) (by omega) (good_app hg (good_plain hp (by omega))) ?_
          revert hx
          unfold cap
          simp only [List.length_append, List.length_cons, List.length_nil]
          split <;> (try split) <;> omega
        simp only [spec_l05Block.l0]
        rw [if_pos (by omega), if_pos (by omega)]
        by_cases c6 : (x.length : Int) < 6
        · rw [if_pos c6]
          obtain ⟨f, i1, g1, e1, ok1⟩ := once_tells g 5 ok (by omega)
          rw [e1]
          simp only [Option.bind_some]
          by_cases cf : f = true
          · subst cf
            obtain ⟨t, i2, g2, e2, ok2, t0, t1⟩ := below_tells g1 3 ok1 (by omega)
            obtain ⟨f2, i3, g3, e3, ok3⟩ := once_tells g2 2 ok2 (by omega)
            -- the end of either way
            have tail : ∀ (s : S39) (i g : Int), OkC l i → (s.f0 = 4 ∨ s.f0 = 5) → okS s = true → ∀ m, 0 ≤ m → m < 2 → ∃ b2 i2 g2, spec_l05Block.f k l i g (wrap64 (1 + m)) (wrap64 (2 - ((h + 1 : Nat) : Int) + 1)) = some (b2, i2, g2) ∧ (b2.length : Int) ≤ 8 ∧
                (∃ b i' g', spec_l05Block.l0 k n (2 - ((h + 1 : Nat) : Int)) (((x ++ [s]) ++ b2) ++ [(⟨6, 0, 0, (⟨0, 0, 0⟩ : S37)⟩ : S39)]) (wrap64 (j + 1)) l i2 g2 = some (b, i', g') ∧ OkC l i' ∧ Good b ((h + 1 : Nat) : Int) ∧ (b.length : Int) ≤ cap (h + 1) n) := by
              intro s i g ok hs hs2 m m0 m1
              rw [w64 (n := 1 + m) (by omega) (by omega), w64 (n := 2 - ((h + 1 : Nat) : Int) + 1) (by omega) (by omega), w64 (n := j + 1) (by omega) (by omega), show 2 - ((h + 1 : Nat) : Int) + 1 = 2 - (h : Int) by omega]
              obtain ⟨b2, i2, g2, e, ok2, hg2, hb2⟩ := ihh (by omega) k i g (1 + m) ok (by omega) (by split <;> omega) (by omega)
              have hb8 : (b2.length : Int) ≤ (if h = 0 then 2 else 8) := by revert hb2; unfold cap; split <;> (try split) <;> omega
              refine ⟨b2, i2, g2, e, by revert hb8; split <;> omega, ?_⟩
              refine ih k _ (j + 1) i2 g2 ok2 (by omega) (by omega) (by omega) ?_ ?_
              · have hw := good_wrap (q := b2) (m := (h : Int)) (c := s.f0) (v := s.f1) (n := s.f2) (o := s.f3.f0) (a := s.f3.f1) (b := s.f3.f2) hs2 hs (by omega) hg2
                have := good_app hg (m := ((h + 1 : Nat) : Int)) hw
                simpa [List.append_assoc] using this
              · revert hx
                unfold cap
                simp only [List.length_append, List.length_cons, List.length_nil]
                revert hb8
                split
                · split <;> (try split) <;> omega
                · split <;> (try split) <;> omega
            simp only [spec_l05Block.j1, if_true]
            rw [e2]
            simp only [Option.bind_some]
            rw [e3]
            simp only [Option.bind_some]
            by_cases c2 : f2 = true
            · rw [if_pos c2]
              obtain ⟨o, a, b, i4, g4, e4, ok4, he⟩ := expr_in g3 ok3
              obtain ⟨m, i5, g5, e5, ok5, m0, m1⟩ := below_tells g4 2 ok4 (by omega)
              obtain ⟨b2, i6, g6, e6, hb8, b, i7, g7, e7, h7⟩ := tail (⟨4, 0, 0, ⟨o, a, b⟩⟩ : S39) i5 g5 ok5 (Or.inl rfl) (by unfold okS sok; simp [he]) m m0 m1
              rw [e4]
              simp only [Option.bind_some]
              rw [if_pos (by omega), e5]
              simp only [Option.bind_some]
              rw [e6]
              simp only [Option.bind_some]
              rw [if_pos (by simp; omega), if_pos (by simp; omega)]
              exact ⟨_, _, _, e7, h7⟩
            · rw [if_neg c2]
              obtain ⟨m, i5, g5, e5, ok5, m0, m1⟩ := below_tells g3 2 ok3 (by omega)
              obtain ⟨b2, i6, g6, e6, hb8, b, i7, g7, e7, h7⟩ := tail (⟨5, 0, wrap64 (1 + t), ⟨0, 0, 0⟩⟩ : S39) i5 g5 ok5 (Or.inr rfl) (by rw [w64 (by omega) (by omega)]; unfold okS sok zok; simp; omega) m m0 m1
              rw [if_pos (by omega), e5]
              simp only [Option.bind_some]
              rw [e6]
              simp only [Option.bind_some]
              rw [if_pos (by simp; omega), if_pos (by simp; omega)]
              exact ⟨_, _, _, e7, h7⟩
          · have : f = false := by simpa using cf
            subst this
            exact hplain i1 g1 ok1
        · rw [if_neg c6]
          exact hplain i g ok
    obtain ⟨k, rfl⟩ : ∃ m, k = m + 1 := ⟨k - 1, by omega⟩
    unfold spec_l05Block.f
    exact hl n.toNat k [] 0 i g ok (by omega) (by omega) (by push_cast at hk; omega) (good_nil _) (by unfold cap; simp; split <;> omega)
theorem good_blk {b : List S39} (h : Good b 2) (hl : (b.length : Int) ≤ 24) : blk b = true := by
  unfold blk fin
  have := h [] 0 (by omega) (by omega)
  rw [List.append_nil] at this
  rw [this]
  simp [scan]
  omega
theorem case_in {l : List Int} {i : Int} (g : Int) (ok : OkC l i) (k : Nat) (hk : 30 ≤ k) : ∃ b i' g', spec_l05Case.f k l i g = some (b, i', g') ∧ OkC l i' ∧ blk b = true := by
  unfold spec_l05Case.f
  obtain ⟨n, i1, g1, e1, ok1, n0, n1⟩ := below_tells g 6 ok (by omega)
  obtain ⟨b, i2, g2, e2, ok2, hg, hb⟩ := block_in 2 (by omega) k i1 g1 n ok1 n0 (by rw [if_pos rfl]; omega) (by omega)
  rw [e1]
  simp only [Option.bind_some]
  have e3 : spec_l05Block.f k l i1 g1 n 0 = some (b, i2, g2) := e2
  rw [e3]
  exact ⟨_, _, _, rfl, ok2, good_blk hg (by revert hb; unfold cap; simp; omega)⟩
/-- Where the statement that is opened ends: depth d at place p. -/
def fend : List S39 → Int → Int → Int
  | [], _, _ => -1
  | a :: t, d, p => if a.f0 = 6 ∧ d = 1 then p else fend t (d + del a) (p + 1)
theorem at_split (x : List S39) (i : Int) (h0 : 0 ≤ i) (h1 : i < (x.length : Int)) : ∃ pre a t, x = pre ++ a :: t ∧ (pre.length : Int) = i ∧ rd_T39 x i = a := by
  have h : i.toNat < x.length := by omega
  refine ⟨x.take i.toNat, x[i.toNat], x.drop (i.toNat + 1), ?_, ?_, ?_⟩
  · rw [List.getElem_cons_drop, List.take_append_drop]
  · rw [List.length_take]; omega
  · unfold rd_T39
    rw [List.getD_eq_getElem?_getD, List.getElem?_eq_getElem h]
    rfl
theorem iend (suf : List S39) : ∀ (k : Nat) (pre x : List S39) (d : Int), x = pre ++ suf → x.length ≤ 1048576 → 2 * suf.length + 1 ≤ k → (1 ≤ d ∨ 0 ≤ d ∧ ∃ a t, suf = a :: t ∧ (a.f0 = 4 ∨ a.f0 = 5)) → d ≤ pre.length →
    impl_endOf.l0 k x d (pre.length : Int) = some (fend suf d (pre.length : Int)) := by
  induction suf with
  | nil =>
    intro k pre x d hx hz hk d0 d1
    obtain ⟨k, rfl⟩ : ∃ m, k = m + 1 := ⟨k - 1, by omega⟩
    have hl : x.length = pre.length := by simp [hx]
    unfold impl_endOf.l0
    rw [if_neg (by omega)]
    rfl
  | cons a t ih =>
    intro k pre x d hx hz hk d0 d1
    simp only [List.length_cons] at hk
    obtain ⟨k, rfl⟩ : ∃ m, k = m + 2 := ⟨k - 2, by omega⟩
    have hl : x.length = pre.length + (t.length + 1) := by simp [hx]
    have hr : rd_T39 x (pre.length : Int) = a := by rw [hx]; exact rd_app pre a t
    have hn : ((pre.length : Int) + 1) = (((pre ++ [a]).length : Nat) : Int) := by simp
    have hf : fend (a :: t) d (pre.length : Int) = if a.f0 = 6 ∧ d = 1 then (pre.length : Int) else fend t (d + del a) ((pre.length : Int) + 1) := rfl
    have step : ∀ e : Int, 1 ≤ e → e ≤ (pre.length : Int) + 1 → impl_endOf.l0 k x e (wrap64 ((pre.length : Int) + 1)) = some (fend t e ((pre.length : Int) + 1)) := by
      intro e e0 e1
      rw [w64 (by omega) (by omega), hn]
      exact ih k (pre ++ [a]) x e (by simp [hx]) hz (by omega) (Or.inl e0) (by omega)
    unfold impl_endOf.l0
    rw [if_pos (by omega), if_pos (by omega)]
    simp only [hr]
    rw [opening_eq, hf]
    simp only [Option.bind_some, decide_eq_true_eq]
    have j : ∀ e : Int, impl_endOf.j1 (k + 1) x e (pre.length : Int) = if a.f0 = 6 then (if wrap64 (e - 1) = 0 then some (pre.length : Int) else impl_endOf.l0 k x (wrap64 (e - 1)) (wrap64 ((pre.length : Int) + 1))) else if e = 0 then some (pre.length : Int) else impl_endOf.l0 k x e (wrap64 ((pre.length : Int) + 1)) := by
      intro e
      unfold impl_endOf.j1
      rw [if_pos (by omega), if_pos (by omega)]
      simp only [hr]
    by_cases o : a.f0 = 4 ∨ a.f0 = 5
    · have hd : del a = 1 := by unfold del; rw [if_pos o]
      have d2 : 0 ≤ d := by omega
      rw [if_pos o, hd, w64 (n := d + 1) (by omega) (by omega), j, if_neg (by omega), if_neg (by omega), if_neg (by omega)]
      exact step _ (by omega) (by omega)
    · have d2 : 1 ≤ d := by
        rcases d0 with h | ⟨h, a', t', e1, e2⟩
        · exact h
        · cases e1; exact absurd e2 o
      rw [if_neg o, j]
      by_cases c6 : a.f0 = 6
      · have hd : del a = -1 := by unfold del; rw [if_neg o, if_pos c6]
        rw [if_pos c6, hd, w64 (n := d - 1) (by omega) (by omega)]
        by_cases c : d = 1
        · rw [if_pos (by omega), if_pos ⟨c6, c⟩]
        · rw [if_neg (by omega), if_neg (by omega), show d + -1 = d - 1 by omega]
          exact step _ (by omega) (by omega)
      · have hd : del a = 0 := by unfold del; rw [if_neg o, if_neg c6]
        rw [if_neg c6, hd, if_neg (by omega), if_neg (by omega), show d + 0 = d by omega]
        exact step _ (by omega) (by omega)
def tot : List S39 → Int
  | [] => 0
  | a :: s => del a + tot s
def mnp : List S39 → Int
  | [] => 0
  | a :: s => if del a + mnp s < 0 then del a + mnp s else 0
theorem mnp_le (s : List S39) : mnp s ≤ 0 ∧ mnp s ≤ tot s := by
  induction s with
  | nil => exact ⟨Int.le_refl _, Int.le_refl _⟩
  | cons a s ih => unfold mnp tot; split <;> omega
theorem tot_in (s : List S39) : -(s.length : Int) ≤ tot s ∧ tot s ≤ s.length := by
  induction s with
  | nil => exact ⟨by simp [tot], by simp [tot]⟩
  | cons a s ih => have := del_in a; unfold tot; simp only [List.length_cons]; omega
theorem tot_app (s r : List S39) : tot (s ++ r) = tot s + tot r := by
  induction s with
  | nil => simp [tot]
  | cons a s ih =>
    have h : tot (a :: s ++ r) = del a + tot (s ++ r) := rfl
    have h2 : tot (a :: s) = del a + tot s := rfl
    omega
theorem fend_app (s : List S39) : ∀ (r : List S39) (d p : Int), 1 ≤ d →
    (mnp s + d ≤ 0 → p ≤ fend (s ++ r) d p ∧ fend (s ++ r) d p < p + s.length) ∧ (1 ≤ mnp s + d → fend (s ++ r) d p = fend r (d + tot s) (p + s.length) ∧ 1 ≤ d + tot s) := by
  induction s with
  | nil =>
    intro r d p h
    refine ⟨fun c => ?_, fun c => ?_⟩
    · unfold mnp at c; omega
    · have e : tot ([] : List S39) = 0 := rfl
      rw [e]
      simp; exact h
  | cons a s ih =>
    intro r d p h
    have hm := mnp_le s
    have hf : fend (a :: s ++ r) d p = if a.f0 = 6 ∧ d = 1 then p else fend (s ++ r) (d + del a) (p + 1) := rfl
    have h1 : mnp (a :: s) = if del a + mnp s < 0 then del a + mnp s else 0 := rfl
    have h2 : tot (a :: s) = del a + tot s := rfl
    have hd : del a = if a.f0 = 4 ∨ a.f0 = 5 then 1 else if a.f0 = 6 then -1 else 0 := rfl
    have hdi := del_in a
    rw [hf, h1, h2]
    simp only [List.length_cons]
    by_cases c : a.f0 = 6 ∧ d = 1
    · rw [if_pos c]
      rw [if_neg (by omega), if_pos c.1] at hd
      rw [if_pos (by omega)]
      exact ⟨fun _ => ⟨by omega, by omega⟩, fun _ => by omega⟩
    · rw [if_neg c]
      have hde : 1 ≤ d + del a := by
        by_cases c6 : a.f0 = 6
        · omega
        · rw [hd]; split
          · omega
          · omega
      obtain ⟨i1, i2⟩ := ih r (d + del a) (p + 1) hde
      refine ⟨fun k => ?_, fun k => ?_⟩
      · have := i1 (by revert k; split <;> omega)
        push_cast
        omega
      · have := i2 (by revert k; split <;> omega)
        rw [this.1, show d + del a + tot s = d + (del a + tot s) by omega, show p + 1 + (s.length : Int) = p + ((s.length + 1 : Nat) : Int) by push_cast; omega]
        exact ⟨rfl, by omega⟩
theorem scan_app (s : List S39) : ∀ (r : List S39) (d e : Int), 0 ≤ d → d ≤ 3 → scan (s ++ r) d = some e → 0 ≤ d + mnp s ∧ d + tot s ≤ 3 ∧ scan r (d + tot s) = some e ∧ (∀ a ∈ s, okS a = true) := by
  induction s with
  | nil =>
    intro r d e h0 h1 h
    have e1 : tot ([] : List S39) = 0 := rfl
    have e2 : mnp ([] : List S39) = 0 := rfl
    rw [e1, e2, show d + 0 = d by omega]
    exact ⟨h0, h1, h, fun a ha => by simp at ha⟩
  | cons a s ih =>
    intro r d e h0 h1 h
    have hs : scan (a :: s ++ r) d = if okS a = true then (if 0 ≤ d + del a ∧ d + del a ≤ 3 then scan (s ++ r) (d + del a) else none) else none := rfl
    rw [hs] at h
    by_cases ok : okS a = true
    · rw [if_pos ok] at h
      by_cases c : 0 ≤ d + del a ∧ d + del a ≤ 3
      · rw [if_pos c] at h
        obtain ⟨i1, i2, i3, i4⟩ := ih r _ e c.1 c.2 h
        have h1 : mnp (a :: s) = if del a + mnp s < 0 then del a + mnp s else 0 := rfl
        have h2 : tot (a :: s) = del a + tot s := rfl
        rw [h1, h2]
        refine ⟨by split <;> omega, by omega, by rw [show d + (del a + tot s) = d + del a + tot s by omega]; exact i3, ?_⟩
        intro b hb
        rcases List.mem_cons.mp hb with rfl | hb
        · exact ok
        · exact i4 b hb
      · rw [if_neg c] at h; exact absurd h (by simp)
    · rw [if_neg ok] at h; exact absurd h (by simp)
theorem blk_scan {x : List S39} (h : blk x = true) : scan x 0 = some 0 ∧ x.length ≤ 24 := by
  unfold blk fin at h
  simpa using h
theorem blk_tot {x : List S39} (h : blk x = true) : tot x = 0 := by
  obtain ⟨h1, _⟩ := blk_scan h
  have h2 := scan_app x [] 0 0 (by omega) (by omega) (by simpa using h1)
  have h3 := h2.2.2.1
  simp only [scan, Option.some.injEq] at h3
  omega
theorem asc_eq {a b : List Int} (ha : a.Pairwise (· < ·)) (hb : b.Pairwise (· < ·)) (h : ∀ x, x ∈ a ↔ x ∈ b) : a = b := by
  have na : a.Nodup := ha.imp (fun hlt => Int.ne_of_lt hlt)
  have nb : b.Nodup := hb.imp (fun hlt => Int.ne_of_lt hlt)
  have hp : a.Perm b := (List.perm_ext_iff_of_nodup na nb).2 h
  exact hp.eq_of_pairwise (fun x y _ _ h1 h2 => by omega) ha hb
theorem compactUpTo_asc (d : Array Int) (hs : ∀ i j, i ≤ j → j < d.size → d[i]! ≤ d[j]!) (m : Nat) (hm : m ≤ d.size) :
    (Lib.compactUpTo d m).Pairwise (· < ·) ∧ (∀ x, x ∈ Lib.compactUpTo d m ↔ ∃ j, j < m ∧ d[j]! = x) := by
  induction m with
  | zero => exact ⟨by simp [Lib.compactUpTo], by simp [Lib.compactUpTo]⟩
  | succ m ih =>
    obtain ⟨h1, h2⟩ := ih (by omega)
    rw [Lib.compactUpTo_succ]
    cases hk : Lib.keeps d m with
    | true =>
      simp only [if_true]
      refine ⟨?_, fun x => ?_⟩
      · rw [List.pairwise_append]
        refine ⟨h1, by simp, fun x hx y hy => ?_⟩
        rw [List.mem_singleton] at hy
        subst hy
        obtain ⟨j, hj, rfl⟩ := (h2 x).1 hx
        have hle1 := hs j (m - 1) (by omega) (by omega)
        have hle2 := hs (m - 1) m (by omega) (by omega)
        have hne : m = 0 ∨ d[m]! ≠ d[m - 1]! := by
          unfold Lib.keeps at hk
          exact of_decide_eq_true hk
        rcases hne with h | h
        · omega
        · omega
      · rw [List.mem_append, h2, List.mem_singleton]
        constructor
        · rintro (⟨j, hj, rfl⟩ | rfl)
          · exact ⟨j, by omega, rfl⟩
          · exact ⟨m, by omega, rfl⟩
        · rintro ⟨j, hj, rfl⟩
          by_cases e : j = m
          · subst e; exact .inr rfl
          · exact .inl ⟨j, by omega, rfl⟩
    | false =>
      simp only [Bool.false_eq_true, if_false, List.append_nil]
      refine ⟨h1, fun x => ?_⟩
      rw [h2]
      have hd : ¬ (m = 0 ∨ d[m]! ≠ d[m - 1]!) := by
        unfold Lib.keeps at hk
        exact of_decide_eq_false hk
      have hm0 : m ≠ 0 := fun e => hd (.inl e)
      have he : d[m]! = d[m - 1]! := by
        by_cases e : d[m]! = d[m - 1]!
        · exact e
        · exact absurd (.inr e) hd
      constructor
      · rintro ⟨j, hj, rfl⟩
        exact ⟨j, by omega, rfl⟩
      · rintro ⟨j, hj, rfl⟩
        by_cases e : j = m
        · subst e; exact ⟨j - 1, by omega, he.symm⟩
        · exact ⟨j, by omega, rfl⟩
/-- Sorted and compacted: each element once, ascending. -/
theorem sortc (l : List Int) : (Lib.compact (l.mergeSort fun x y => decide (x ≤ y))).Pairwise (· < ·) ∧ ∀ x, x ∈ Lib.compact (l.mergeSort fun x y => decide (x ≤ y)) ↔ x ∈ l := by
  have hp : (l.mergeSort fun x y => decide (x ≤ y)).Perm l := List.mergeSort_perm _ _
  have hs := List.pairwise_mergeSort (le := fun (x y : Int) => decide (x ≤ y)) (by intro a b c h1 h2; simp at *; omega) (by intro a b; simp; omega) l
  generalize (l.mergeSort fun x y => decide (x ≤ y)) = s at hp hs
  have hidx : ∀ i j, i ≤ j → j < s.toArray.size → s.toArray[i]! ≤ s.toArray[j]! := by
    intro i j hij hj
    have hj' : j < s.length := by simpa using hj
    have e1 : s.toArray[i]! = s[i]'(by omega) := by simp [getElem!_pos, show i < s.length by omega]
    have e2 : s.toArray[j]! = s[j]'hj' := by simp [getElem!_pos, hj']
    rw [e1, e2]
    by_cases e : i = j
    · subst e; exact Int.le_refl _
    · have := List.pairwise_iff_getElem.1 hs i j (by omega) hj' (by omega)
      exact of_decide_eq_true this
  obtain ⟨h1, h2⟩ := compactUpTo_asc s.toArray hidx s.length (by simp)
  refine ⟨h1, fun x => ?_⟩
  rw [← hp.mem_iff]
  unfold Lib.compact
  rw [h2]
  constructor
  · rintro ⟨j, hj, rfl⟩
    have e1 : s.toArray[j]! = s[j]'hj := by simp [getElem!_pos, hj]
    rw [e1]
    exact List.getElem_mem hj
  · intro hx
    obtain ⟨j, hj, rfl⟩ := List.mem_iff_getElem.1 hx
    exact ⟨j, hj, by simp [getElem!_pos, hj]⟩
/-- The variables, ascending, that are operands. -/
def hit (a b : Int) (i : Nat) : Bool := decide (a = -1 - (i : Int)) || decide (b = -1 - (i : Int))
def rds (o a b : Int) : List Int := if eok o a b = true then ((List.range 8).filter (hit a b)).map (fun i : Nat => (i : Int)) else []
theorem asc_range (p : Nat → Bool) (n : Nat) : (((List.range n).filter p).map (fun i : Nat => (i : Int))).Pairwise (· < ·) := by
  rw [List.pairwise_map]
  exact (List.pairwise_lt_range.filter p).imp (fun h => by omega)
theorem mem_rds {o a b : Int} (h : eok o a b = true) (x : Int) : x ∈ rds o a b ↔ 0 ≤ x ∧ x < 8 ∧ (a = -1 - x ∨ b = -1 - x) := by
  unfold rds
  rw [if_pos h]
  simp only [List.mem_map, List.mem_filter, List.mem_range, hit, Bool.or_eq_true, decide_eq_true_eq]
  constructor
  · rintro ⟨i, ⟨hi, hh⟩, rfl⟩
    exact ⟨by omega, by omega, hh⟩
  · rintro ⟨h0, h1, hh⟩
    exact ⟨x.toNat, ⟨by omega, by rw [Int.toNat_of_nonneg h0]; exact hh⟩, by omega⟩
theorem ireads (o a b : Int) (k : Nat) (hk : 3 ≤ k) : impl_ReadsOf.f k o a b = some (rds o a b) := by
  obtain ⟨k, rfl⟩ : ∃ m, k = m + 3 := ⟨k - 3, by omega⟩
  unfold impl_ReadsOf.f
  rw [iexpr]
  simp only [Option.bind_some]
  by_cases h : eok o a b = true
  · rw [if_pos h]
    obtain ⟨_, ha, hb⟩ := eok_in h
    have ra : rd [a, b] 0 = a := rfl
    have rb : rd [a, b] 1 = b := rfl
    have hfin : ∀ l : List Int, l.length ≤ 2 → (∀ x, x ∈ l ↔ (a < 0 ∧ x = -1 - a) ∨ (b < 0 ∧ x = -1 - b)) → ((slices_Sort_int_int.f l).bind fun t => ((slices_Compact_int_int.f t).bind fun t => some t)) = some (rds o a b) := by
      intro l hl hm
      obtain ⟨h1, h2⟩ := sortc l
      unfold slices_Sort_int_int.f
      rw [if_pos (by omega)]
      simp only [Option.bind_some]
      unfold slices_Compact_int_int.f
      rw [if_pos (by rw [List.length_mergeSort]; omega)]
      simp only [Option.bind_some]
      congr 1
      refine asc_eq h1 (by unfold rds; rw [if_pos h]; exact asc_range _ _) (fun x => ?_)
      rw [h2, hm, mem_rds h]
      omega
    have w1 : wrap64 (-1 - a) = -1 - a := w64 (by omega) (by omega)
    have w2 : wrap64 (-1 - b) = -1 - b := w64 (by omega) (by omega)
    have w3 : wrap64 (0 + 1) = 1 := by rw [w64 (by omega) (by omega)]; rfl
    have w4 : wrap64 (1 + 1) = 2 := by rw [w64 (by omega) (by omega)]; rfl
    have w5 : wrap64 1 = 1 := w64 (by omega) (by omega)
    have w6 : wrap64 2 = 2 := w64 (by omega) (by omega)
    have l0 : (0 : Int) < (([a, b] : List Int).length : Int) := by simp
    have l1 : (1 : Int) < (([a, b] : List Int).length : Int) := by simp
    have l2 : ¬ (2 : Int) < (([a, b] : List Int).length : Int) := by simp
    have g1 : (0 : Int) ≤ 1 := by decide
    have g0 : (0 : Int) ≤ 0 := by decide
    by_cases ca : a < 0
    · by_cases cb : b < 0
      · simp only [impl_ReadsOf.l0, if_pos l0, if_pos l1, if_neg l2, if_pos g0, if_pos g1, ra, rb, if_pos ca, if_pos cb, w1, w2, w3, w4, w5, w6]
        rw [if_pos (by simp), if_pos (by simp)]
        exact hfin _ (by simp) (fun x => by simp; omega)
      · simp only [impl_ReadsOf.l0, if_pos l0, if_pos l1, if_neg l2, if_pos g0, if_pos g1, ra, rb, if_pos ca, if_neg cb, w1, w3, w4, w5, w6]
        rw [if_pos (by simp)]
        exact hfin _ (by simp) (fun x => by simp; omega)
    · by_cases cb : b < 0
      · simp only [impl_ReadsOf.l0, if_pos l0, if_pos l1, if_neg l2, if_pos g0, if_pos g1, ra, rb, if_neg ca, if_pos cb, w2, w3, w4, w5, w6]
        rw [if_pos (by simp)]
        exact hfin _ (by simp) (fun x => by simp; omega)
      · simp only [impl_ReadsOf.l0, if_pos l0, if_pos l1, if_neg l2, if_pos g0, if_pos g1, ra, rb, if_neg ca, if_neg cb, w3, w4, w5, w6]
        exact hfin _ (by simp) (fun x => by simp; omega)
  · rw [if_neg h]
    unfold rds
    rw [if_neg h]
theorem fend_find (u : List S39) : ∀ (d p : Int), 1 ≤ d → mnp u + d ≤ 0 → ∃ s c r, u = s ++ c :: r ∧ c.f0 = 6 ∧ d + tot s = 1 ∧ fend u d p = p + s.length := by
  induction u with
  | nil => intro d p h1 h2; have : mnp ([] : List S39) = 0 := rfl; omega
  | cons a t ih =>
    intro d p h1 h2
    have hm : mnp (a :: t) = if del a + mnp t < 0 then del a + mnp t else 0 := rfl
    have hf : fend (a :: t) d p = if a.f0 = 6 ∧ d = 1 then p else fend t (d + del a) (p + 1) := rfl
    by_cases c : a.f0 = 6 ∧ d = 1
    · refine ⟨[], a, t, rfl, c.1, ?_, ?_⟩
      · have : tot ([] : List S39) = 0 := rfl
        omega
      · rw [hf, if_pos c]; simp
    · have hd : del a = if a.f0 = 4 ∨ a.f0 = 5 then 1 else if a.f0 = 6 then -1 else 0 := rfl
      have hdi := del_in a
      have hde : 1 ≤ d + del a := by
        by_cases c6 : a.f0 = 6
        · omega
        · rw [hd]; split
          · omega
          · omega
      obtain ⟨s, x, r, e1, e2, e3, e4⟩ := ih (d + del a) (p + 1) hde (by rw [hm] at h2; revert h2; split <;> omega)
      refine ⟨a :: s, x, r, by rw [e1]; rfl, e2, ?_, ?_⟩
      · have : tot (a :: s) = del a + tot s := rfl
        omega
      · rw [hf, if_neg c, e4]; simp only [List.length_cons]; push_cast; omega
theorem if_end {x pre u : List S39} {a : S39} (b : blk x = true) (hx : x = pre ++ a :: u) (o : a.f0 = 4 ∨ a.f0 = 5) : ∃ s c r, u = s ++ c :: r ∧ c.f0 = 6 ∧ tot s = 0 ∧ fend (a :: u) 0 (pre.length : Int) = (pre.length : Int) + 1 + s.length ∧ fend u 1 ((pre.length : Int) + 1) = (pre.length : Int) + 1 + s.length := by
  have hs := blk_scan b
  have hsa := scan_app pre (a :: u) 0 0 (by omega) (by omega) (by rw [← hx]; exact hs.1)
  have hm := mnp_le pre
  have ht : tot x = tot pre + (del a + tot u) := by
    rw [hx, tot_app]
    have h4 : tot (a :: u) = del a + tot u := rfl
    rw [h4]
  have ht0 := blk_tot b
  have hdl : del a = 1 := by unfold del; rw [if_pos o]
  have hmu := mnp_le u
  obtain ⟨s, c, r, e1, e2, e3, e4⟩ := fend_find u 1 ((pre.length : Int) + 1) (by omega) (by omega)
  refine ⟨s, c, r, e1, e2, by omega, ?_, e4⟩
  have h0 : fend (a :: u) 0 (pre.length : Int) = if a.f0 = 6 ∧ (0 : Int) = 1 then (pre.length : Int) else fend u (0 + del a) ((pre.length : Int) + 1) := rfl
  rw [h0, if_neg (by omega), hdl]
  exact e4
theorem fend_pre (s1 : List S39) : ∀ (s2 t : List S39) (d p : Int), 1 ≤ d → fend (s1 ++ (s2 ++ t)) d p = p + (s1.length : Int) + (s2.length : Int) → 1 ≤ d + tot s1 := by
  induction s1 with
  | nil => intro s2 t d p h1 _; have : tot ([] : List S39) = 0 := rfl; omega
  | cons a s ih =>
    intro s2 t d p h1 h2
    have hf : fend ((a :: s) ++ (s2 ++ t)) d p = if a.f0 = 6 ∧ d = 1 then p else fend (s ++ (s2 ++ t)) (d + del a) (p + 1) := rfl
    have ht : tot (a :: s) = del a + tot s := rfl
    rw [hf] at h2
    simp only [List.length_cons] at h2
    by_cases c : a.f0 = 6 ∧ d = 1
    · rw [if_pos c] at h2; omega
    · rw [if_neg c] at h2
      have hd : del a = if a.f0 = 4 ∨ a.f0 = 5 then 1 else if a.f0 = 6 then -1 else 0 := rfl
      have hde : 1 ≤ d + del a := by
        by_cases c6 : a.f0 = 6
        · have := del_in a; omega
        · rw [hd]; split
          · omega
          · omega
      have := ih s2 t (d + del a) (p + 1) hde (by omega)
      omega
/-- A list in which each opening has its end. -/
inductive Bal : List S39 → Prop
  | nil : Bal []
  | plain (a : S39) (t : List S39) (h1 : ¬ (a.f0 = 4 ∨ a.f0 = 5)) (h2 : a.f0 ≠ 6) (ht : Bal t) : Bal (a :: t)
  | node (a : S39) (s : List S39) (c : S39) (r : List S39) (h1 : a.f0 = 4 ∨ a.f0 = 5) (h2 : c.f0 = 6) (hs : Bal s) (hr : Bal r) : Bal (a :: (s ++ c :: r))
theorem fend_bal {s : List S39} (h : Bal s) : ∀ (t : List S39) (d p : Int), 1 ≤ d → fend (s ++ t) d p = fend t d (p + s.length) := by
  induction h with
  | nil => intro t d p _; simp
  | plain a u h1 h2 _ ih =>
    intro t d p hd
    have hdel : del a = 0 := by unfold del; rw [if_neg h1, if_neg h2]
    have hf : fend ((a :: u) ++ t) d p = if a.f0 = 6 ∧ d = 1 then p else fend (u ++ t) (d + del a) (p + 1) := rfl
    rw [hf, if_neg (fun e => h2 e.1), hdel, Int.add_zero, ih t d (p + 1) hd, List.length_cons]
    congr 1; push_cast; omega
  | node a s c r h1 h2 _ _ ihs ihr =>
    intro t d p hd
    have hdel : del a = 1 := by unfold del; rw [if_pos h1]
    have hdelc : del c = -1 := by unfold del; rw [if_neg (by omega), if_pos h2]
    have hf : fend ((a :: (s ++ c :: r)) ++ t) d p = if a.f0 = 6 ∧ d = 1 then p else fend ((s ++ c :: r) ++ t) (d + del a) (p + 1) := rfl
    have hg : ∀ e q : Int, fend (c :: (r ++ t)) e q = if c.f0 = 6 ∧ e = 1 then q else fend (r ++ t) (e + del c) (q + 1) := fun _ _ => rfl
    rw [hf, if_neg (by omega), hdel, List.append_assoc, ihs _ _ _ (by omega), List.cons_append, hg, if_neg (by omega), hdelc, ihr t _ _ (by omega)]
    simp only [List.length_cons, List.length_append]
    rw [show d + 1 + -1 = d by omega]
    congr 1; push_cast; omega
/-- Where an opening's end is. -/
theorem fend_node {a c : S39} {s : List S39} (h1 : a.f0 = 4 ∨ a.f0 = 5) (h2 : c.f0 = 6) (hs : Bal s) (t : List S39) (p : Int) : fend (a :: (s ++ c :: t)) 0 p = p + 1 + s.length := by
  have hdel : del a = 1 := by unfold del; rw [if_pos h1]
  have hf : fend (a :: (s ++ c :: t)) 0 p = if a.f0 = 6 ∧ (0 : Int) = 1 then p else fend (s ++ c :: t) (0 + del a) (p + 1) := rfl
  have hg : ∀ e q : Int, fend (c :: t) e q = if c.f0 = 6 ∧ e = 1 then q else fend t (e + del c) (q + 1) := fun _ _ => rfl
  rw [hf, if_neg (by omega), hdel, fend_bal hs _ _ _ (by omega), hg, if_pos ⟨h2, by omega⟩]
theorem mnp_app (s t : List S39) : mnp (s ++ t) ≤ tot s + mnp t := by
  induction s with
  | nil => have : tot ([] : List S39) = 0 := rfl; simp only [List.nil_append]; omega
  | cons a s ih =>
    have h1 : tot (a :: s) = del a + tot s := rfl
    have h2 : mnp (a :: s ++ t) = if del a + mnp (s ++ t) < 0 then del a + mnp (s ++ t) else 0 := rfl
    rw [h2]; split <;> omega
theorem mnp_pre (s : List S39) : ∀ (h : ∀ s1 s2, s = s1 ++ s2 → 0 ≤ tot s1), 0 ≤ mnp s := by
  suffices hh : ∀ (s : List S39) (d : Int), (∀ s1 s2, s = s1 ++ s2 → 0 ≤ d + tot s1) → 0 ≤ d + mnp s by
    intro h
    have := hh s 0 (fun s1 s2 e => by have := h s1 s2 e; omega)
    omega
  intro s
  induction s with
  | nil => intro d h; have := h [] [] rfl; have h1 : tot ([] : List S39) = 0 := rfl; have h2 : mnp ([] : List S39) = 0 := rfl; omega
  | cons a s ih =>
    intro d h
    have h2 : mnp (a :: s) = if del a + mnp s < 0 then del a + mnp s else 0 := rfl
    have h0 := h [] (a :: s) rfl
    have h1 : tot ([] : List S39) = 0 := rfl
    have := ih (d + del a) (fun s1 s2 e => by
      have := h (a :: s1) s2 (by rw [e]; rfl)
      have h4 : tot (a :: s1) = del a + tot s1 := rfl
      omega)
    rw [h2]; split <;> omega
theorem bal_of (n : Nat) : ∀ (u : List S39), u.length ≤ n → 0 ≤ mnp u → tot u = 0 → Bal u := by
  induction n with
  | zero => intro u h _ _; cases u with
    | nil => exact Bal.nil
    | cons a t => simp at h
  | succ n ih =>
    intro u h hm ht
    cases u with
    | nil => exact Bal.nil
    | cons a t =>
      simp only [List.length_cons] at h
      have h1 : tot (a :: t) = del a + tot t := rfl
      have h2 : mnp (a :: t) = if del a + mnp t < 0 then del a + mnp t else 0 := rfl
      have hmt := mnp_le t
      have h3 : 0 ≤ del a + mnp t := by rw [h2] at hm; revert hm; split <;> omega
      by_cases o : a.f0 = 4 ∨ a.f0 = 5
      · have hd : del a = 1 := by unfold del; rw [if_pos o]
        obtain ⟨s, c, r, e1, e2, e3, e4⟩ := fend_find t 1 0 (by omega) (by omega)
        have hdc : del c = -1 := by unfold del; rw [if_neg (by omega), if_pos e2]
        have hls : t.length = s.length + (r.length + 1) := by rw [e1]; simp
        have hpre : ∀ s1 s2, s = s1 ++ s2 → 0 ≤ tot s1 := fun s1 s2 e => by
          have := fend_pre s1 s2 (c :: r) 1 0 (by omega) (by
            have : t = s1 ++ (s2 ++ c :: r) := by rw [e1, e]; simp
            rw [← this, e4, e]; simp only [List.length_append]; push_cast; omega)
          omega
        have htr : tot t = tot s + (del c + tot r) := by
          rw [e1, tot_app]
          have h4 : tot (c :: r) = del c + tot r := rfl
          rw [h4]
        have hmr : 0 ≤ mnp r := by
          have := mnp_app (s ++ [c]) r
          have h5 : tot (s ++ [c]) = tot s + del c := by
            rw [tot_app]
            have h6 : tot [c] = del c + tot ([] : List S39) := rfl
            have h7 : tot ([] : List S39) = 0 := rfl
            omega
          have h6 : (s ++ [c]) ++ r = t := by rw [e1]; simp
          rw [h6] at this
          omega
        rw [e1]
        exact Bal.node a s c r o e2 (ih s (by omega) (mnp_pre s hpre) (by omega)) (ih r (by omega) hmr (by omega))
      · by_cases c6 : a.f0 = 6
        · have hd : del a = -1 := by unfold del; rw [if_neg o, if_pos c6]
          omega
        · have hd : del a = 0 := by unfold del; rw [if_neg o, if_neg c6]
          exact Bal.plain a t o c6 (ih t (by omega) (by omega) (by omega))
theorem blk_bal {x : List S39} (b : blk x = true) : Bal x := by
  obtain ⟨h1, _⟩ := blk_scan b
  have := scan_app x [] 0 0 (by omega) (by omega) (by simpa using h1)
  exact bal_of x.length x (Nat.le_refl _) (by omega) (blk_tot b)
theorem rd_get (xs : List Int) (i : Int) (h0 : 0 ≤ i) (h1 : i < (xs.length : Int)) : xs[i.toNat]? = some (rd xs i) := by
  have h : i.toNat < xs.length := by omega
  unfold Go.Proofs.YtlhcofkandeepaaW.PrintWords.rd
  rw [List.getD_eq_getElem?_getD, List.getElem?_eq_getElem h]
  rfl
theorem rd_get2 (xs : List Int) (i : Int) (h0 : 0 ≤ i) (h1 : i < (xs.length : Int)) : xs[i.toNat]? = some (rd xs i) := by
  have h : i.toNat < xs.length := by omega
  unfold Go.Proofs.YtlhcofkandeepaaW.PrintWords.rd
  rw [List.getD_eq_getElem?_getD, List.getElem?_eq_getElem h]
  rfl
theorem has_loop (r : List Int) (x : Int) (sz : (r.length : Int) ≤ 1000000) (d : Nat) : ∀ (k : Nat) (i : Int), 0 ≤ i → (r.length : Int) - i = d → d < k → laws_has.l0 k r x i = some (decide (x ∈ r.drop i.toNat)) := by
  induction d with
  | zero =>
    intro k i h0 hd hk
    obtain ⟨k, rfl⟩ : ∃ m, k = m + 1 := ⟨k - 1, by omega⟩
    simp only [laws_has.l0]
    rw [if_neg (by omega), List.drop_eq_nil_of_le (by omega)]
    simp
  | succ d ih =>
    intro k i h0 hd hk
    obtain ⟨k, rfl⟩ : ∃ m, k = m + 1 := ⟨k - 1, by omega⟩
    have hi : i.toNat < r.length := by omega
    have hr : rd r i = r[i.toNat] := by
      have := rd_get2 r i h0 (by omega)
      rw [List.getElem?_eq_getElem hi] at this
      exact (Option.some.inj this).symm
    simp only [laws_has.l0]
    rw [if_pos (by omega), if_pos h0, List.drop_eq_getElem_cons hi, ← hr]
    by_cases c : rd r i = x
    · rw [if_pos c, c]; simp
    · rw [if_neg c, w64 (by omega) (by omega), ih k (i + 1) (by omega) (by omega) (by omega), show (i + 1).toNat = i.toNat + 1 by omega]
      congr 1
      rw [Bool.eq_iff_iff]
      simp only [decide_eq_true_eq, List.mem_cons]
      constructor
      · exact Or.inr
      · rintro (h | h)
        · exact absurd h.symm c
        · exact h
theorem ihas_loop (r : List Int) (x : Int) (sz : (r.length : Int) ≤ 1000000) (d : Nat) : ∀ (k : Nat) (i : Int), 0 ≤ i → (r.length : Int) - i = d → d < k → ∃ z, slices_Index_int_int.l0 k r x (r.length : Int) i = some z ∧ decide (z ≥ 0) = decide (x ∈ r.drop i.toNat) := by
  induction d with
  | zero =>
    intro k i h0 hd hk
    obtain ⟨k, rfl⟩ : ∃ m, k = m + 1 := ⟨k - 1, by omega⟩
    simp only [slices_Index_int_int.l0]
    rw [if_neg (by omega), List.drop_eq_nil_of_le (by omega)]
    exact ⟨_, rfl, by simp⟩
  | succ d ih =>
    intro k i h0 hd hk
    obtain ⟨k, rfl⟩ : ∃ m, k = m + 1 := ⟨k - 1, by omega⟩
    have hi : i.toNat < r.length := by omega
    have hr : rd r i = r[i.toNat] := by
      have := rd_get r i h0 (by omega)
      rw [List.getElem?_eq_getElem hi] at this
      exact (Option.some.inj this).symm
    simp only [slices_Index_int_int.l0]
    rw [if_pos (by omega), if_pos h0, if_pos (by omega), List.drop_eq_getElem_cons hi, ← hr]
    by_cases c : x = rd r i
    · rw [if_pos c, ← c]; exact ⟨_, rfl, by simp; omega⟩
    · obtain ⟨z, e, hz⟩ := ih k (i + 1) (by omega) (by omega) (by omega)
      rw [if_neg c, w64 (by omega) (by omega), e]
      refine ⟨z, rfl, ?_⟩
      rw [hz, show (i + 1).toNat = i.toNat + 1 by omega, Bool.eq_iff_iff]
      simp only [decide_eq_true_eq, List.mem_cons]
      constructor
      · exact Or.inr
      · rintro (h | h)
        · exact absurd h c
        · exact h
theorem ihas (r : List Int) (x : Int) (sz : (r.length : Int) ≤ 1000000) (k : Nat) (hk : r.length < k) : impl_HasVar.f k r x = some (decide (x ∈ r)) := by
  obtain ⟨z, e, hz⟩ := ihas_loop r x sz r.length k 0 (by omega) (by omega) hk
  unfold impl_HasVar.f slices_Contains_int_int.f slices_Index_int_int.f
  rw [e]
  simp only [Option.bind_some, Option.some.injEq]
  rw [hz]
  rfl
theorem rd_app62 (pre : List S47) (a : S47) (t : List S47) : rd_T47 (pre ++ a :: t) (pre.length : Int) = a := by
  unfold rd_T47
  simp [List.getD]
/-- A valid task. -/
def tok (s : S47) : Bool := blk s.f0 && eok s.f1.f0 s.f1.f1 s.f1.f2
/-- A valid program. -/
def pok (l : List S47) : Bool := decide (1 ≤ (l.length : Int) ∧ (l.length : Int) ≤ 6) && l.all tok
/-- Bodies that aren't longer than all that is asked. -/
def Small (l : List S47) : Prop := l.length ≤ 1048576 ∧ ∀ s ∈ l, s.f0.length ≤ 1048576
theorem itask (s : S47) (hz : s.f0.length ≤ 1048576) (k : Nat) (hk : 2097160 ≤ k) : impl_taskOk.f k s.f0 s.f1.f0 s.f1.f1 s.f1.f2 = some (tok s) := by
  unfold impl_taskOk.f tok
  rw [iblock s.f0 (by omega) k (by omega), iexpr]
  simp only [Option.bind_some]
  cases blk s.f0 <;> simp
theorem iprog_loop (suf : List S47) : ∀ (k : Nat) (pre x : List S47), x = pre ++ suf → Small x → suf.length + 2097162 ≤ k →
    impl_ProgramOk.l0 k x (pre.length : Int) = some (suf.all tok) := by
  induction suf with
  | nil =>
    intro k pre x hx hz hk
    obtain ⟨k, rfl⟩ : ∃ m, k = m + 1 := ⟨k - 1, by omega⟩
    have hl : x.length = pre.length := by simp [hx]
    simp only [impl_ProgramOk.l0]
    rw [if_neg (by omega)]
    rfl
  | cons a t ih =>
    intro k pre x hx hz hk
    simp only [List.length_cons] at hk
    obtain ⟨k, rfl⟩ : ∃ m, k = m + 1 := ⟨k - 1, by omega⟩
    have hl : x.length = pre.length + (t.length + 1) := by simp [hx]
    have hr : rd_T47 x (pre.length : Int) = a := by rw [hx]; exact rd_app62 pre a t
    have hn : ((pre.length : Int) + 1) = (((pre ++ [a]).length : Nat) : Int) := by simp
    simp only [impl_ProgramOk.l0]
    rw [if_pos (by omega), if_pos (by omega), hr, itask a (hz.2 a (by simp [hx])) k (by omega)]
    simp only [Option.bind_some, List.all_cons]
    by_cases c : tok a = true
    · rw [if_pos c, c, hn, ih k (pre ++ [a]) x (by simp [hx]) hz (by omega)]
      rfl
    · rw [if_neg c, Bool.eq_false_iff.mpr c]
      rfl
theorem iprog (x : List S47) (hz : Small x) (k : Nat) (hk : x.length + 2097162 ≤ k) : impl_ProgramOk.f k x = some (pok x) := by
  unfold impl_ProgramOk.f pok
  rw [within_eq]
  simp only [Option.bind_some]
  by_cases c : 1 ≤ (x.length : Int) ∧ (x.length : Int) ≤ 6
  · rw [decide_eq_true c, if_pos rfl]
    have := iprog_loop x k [] x rfl hz hk
    simp only [List.length_nil] at this
    rw [show ((0 : Nat) : Int) = 0 from rfl] at this
    rw [this, Bool.true_and]
  · rw [decide_eq_false c, if_neg (by simp), Bool.false_and]
/-- A statement that writes a variable. -/
def isw (s : S39) : Bool := decide (s.f0 = 1 ∨ s.f0 = 2)
/-- The numbers below 8 of which something is true, ascending. -/
def asc8 (p : Nat → Bool) : List Int := ((List.range 8).filter p).map (fun i : Nat => (i : Int))
def vin (v : List Int) (i : Nat) : Bool := decide ((i : Int) ∈ v)
theorem asc8_asc (p : Nat → Bool) : (asc8 p).Pairwise (· < ·) := by
  unfold asc8
  rw [List.pairwise_map]
  exact (List.pairwise_lt_range.filter p).imp (fun h => by omega)
theorem mem_asc8 (p : Nat → Bool) (x : Int) : x ∈ asc8 p ↔ 0 ≤ x ∧ x < 8 ∧ p x.toNat = true := by
  unfold asc8
  simp only [List.mem_map, List.mem_filter, List.mem_range]
  constructor
  · rintro ⟨i, ⟨hi, hh⟩, rfl⟩
    exact ⟨by omega, by omega, by simpa using hh⟩
  · rintro ⟨h0, h1, hh⟩
    exact ⟨x.toNat, ⟨by omega, hh⟩, by omega⟩
theorem asc8_len (p : Nat → Bool) : (asc8 p).length ≤ 8 := by
  unfold asc8
  rw [List.length_map]
  exact Nat.le_trans (List.length_filter_le _ _) (by simp)
theorem mem_vin (v : List Int) (hv : ∀ x ∈ v, 0 ≤ x ∧ x < 8) (x : Int) : x ∈ asc8 (vin v) ↔ x ∈ v := by
  rw [mem_asc8]
  unfold vin
  constructor
  · rintro ⟨a, b, c⟩
    rw [Int.toNat_of_nonneg a] at c
    exact of_decide_eq_true c
  · intro hx
    obtain ⟨a, b⟩ := hv x hx
    exact ⟨a, b, by rw [Int.toNat_of_nonneg a]; exact decide_eq_true hx⟩
theorem wsort (v : List Int) (hv : ∀ x ∈ v, 0 ≤ x ∧ x < 8) (hl : v.length ≤ 1000) : ((slices_Sort_int_int.f v).bind fun t => ((slices_Compact_int_int.f t).bind fun t => some t)) = some (asc8 (vin v)) := by
  obtain ⟨h1, h2⟩ := sortc v
  unfold slices_Sort_int_int.f
  rw [if_pos (by omega)]
  simp only [Option.bind_some]
  unfold slices_Compact_int_int.f
  rw [if_pos (by rw [List.length_mergeSort]; omega)]
  simp only [Option.bind_some]
  congr 1
  exact asc_eq h1 (asc8_asc _) (fun x => by rw [h2, mem_vin v hv])
theorem okS_var {s : S39} (h : okS s = true) (w : isw s = true) : 0 ≤ s.f1 ∧ s.f1 < 8 := by
  unfold isw at w
  have w := of_decide_eq_true w
  unfold okS sok at h
  rcases w with w | w
  · rw [if_pos w] at h; simp at h; omega
  · rw [if_neg (by omega), if_pos w] at h; simp at h; omega
theorem blk_ok {x : List S39} (b : blk x = true) : ∀ a ∈ x, okS a = true := by
  obtain ⟨h1, _⟩ := blk_scan b
  exact (scan_app x [] 0 0 (by omega) (by omega) (by simpa using h1)).2.2.2
theorem hasv_eq (c : Int) : impl_hasVar.f c = some (decide (c = 1 ∨ c = 2)) := by
  unfold impl_hasVar.f
  by_cases h : c = 1
  · simp [h]
  · rw [if_neg h]; congr 1; rw [Bool.eq_iff_iff]; simp [h]
/-- What the statements may write. -/
def wl (x : List S39) : List Int := (x.filter isw).map (fun s => s.f1)
theorem wl_in {x : List S39} (h : ∀ a ∈ x, okS a = true) : ∀ y ∈ wl x, 0 ≤ y ∧ y < 8 := by
  intro y hy
  unfold wl at hy
  simp only [List.mem_map, List.mem_filter] at hy
  obtain ⟨a, ⟨ha, hw⟩, rfl⟩ := hy
  exact okS_var (h a ha) hw
/-- A list of n bools. -/
def gl (n : Nat) (p : Nat → Bool) : List Bool := (List.range n).map p
theorem gl_len (n : Nat) (p : Nat → Bool) : (gl n p).length = n := by simp [gl]
theorem gl_rd (n : Nat) (p : Nat → Bool) (i : Nat) (h : i < n) : rdOf false (gl n p) (i : Int) = p i := by
  unfold rdOf gl
  rw [Int.toNat_natCast, List.getD_eq_getElem?_getD, List.getElem?_map, List.getElem?_range h]
  rfl
theorem gl_set (n : Nat) (p : Nat → Bool) (i : Nat) : (gl n p).set i true = gl n (fun j => p j || decide (j = i)) := by
  apply List.ext_getElem
  · simp [gl]
  · intro j h1 h2
    rw [List.getElem_set]
    simp only [gl, List.getElem_map, List.getElem_range]
    by_cases e : i = j
    · rw [if_pos e]; simp [e]
    · rw [if_neg e]; simp [show ¬ j = i from fun h => e h.symm]
theorem gl_congr (n : Nat) (p q : Nat → Bool) (h : ∀ i, i < n → p i = q i) : gl n p = gl n q := by
  unfold gl
  apply List.map_congr_left
  intro i hi
  exact h i (List.mem_range.1 hi)
theorem iwm (u : List S39) : ∀ (k : Nat) (pre x : List S39) (acc : List Int), x = pre ++ u → x.length ≤ 24 → u.length + 1 ≤ k → acc.length ≤ pre.length → (∀ a ∈ x, okS a = true) → (∀ y ∈ acc, 0 ≤ y ∧ y < 8) →
    impl_written_MayWrite.l0 k acc x (x.length : Int) (pre.length : Int) = some (asc8 (vin (acc ++ wl u))) := by
  induction u with
  | nil =>
    intro k pre x acc hx hz hk ha ho hy
    obtain ⟨k, rfl⟩ : ∃ m, k = m + 1 := ⟨k - 1, by omega⟩
    have hl : x.length = pre.length := by simp [hx]
    simp only [impl_written_MayWrite.l0]
    rw [if_neg (by omega), show acc ++ wl [] = acc from List.append_nil acc]
    exact wsort acc hy (by omega)
  | cons a t ih =>
    intro k pre x acc hx hz hk ha ho hy
    simp only [List.length_cons] at hk
    obtain ⟨k, rfl⟩ : ∃ m, k = m + 1 := ⟨k - 1, by omega⟩
    have hl : x.length = pre.length + (t.length + 1) := by simp [hx]
    have hr : rd_T39 x (pre.length : Int) = a := by rw [hx]; exact rd_app pre a t
    have hn : ((pre.length : Int) + 1) = (((pre ++ [a]).length : Nat) : Int) := by simp
    have hp : (pre ++ [a]).length = pre.length + 1 := by simp
    simp only [impl_written_MayWrite.l0, impl_MayWrite_1.f]
    rw [if_pos (by omega), if_pos (by omega), if_pos (by omega), hr, hasv_eq]
    simp only [Option.bind_some]
    rw [w64 (by omega) (by omega), hn]
    by_cases c : a.f0 = 1 ∨ a.f0 = 2
    · have hw : isw a = true := decide_eq_true c
      have hv := okS_var (ho a (by rw [hx]; simp)) hw
      have e : acc ++ wl (a :: t) = (acc ++ [a.f1]) ++ wl t := by unfold wl; rw [List.filter_cons, if_pos hw]; simp
      rw [if_pos (decide_eq_true c), if_pos trivial, if_pos (by omega), e]
      exact ih k (pre ++ [a]) x (acc ++ [a.f1]) (by simp [hx]) hz (by omega) (by simp; omega) ho (by
        intro y h; rw [List.mem_append, List.mem_singleton] at h
        rcases h with h | h
        · exact hy y h
        · rw [h]; exact hv)
    · have hw : ¬ isw a = true := fun h => c (of_decide_eq_true h)
      have e : wl (a :: t) = wl t := by unfold wl; rw [List.filter_cons, if_neg hw]
      rw [if_neg (fun h => c (of_decide_eq_true h)), e]
      exact ih k (pre ++ [a]) x acc (by simp [hx]) hz (by omega) (by omega) ho hy
/-- What a block may write, ascending. -/
def mayv (x : List S39) : List Int := if blk x = true then asc8 (vin (wl x)) else []
theorem imay (x : List S39) (hz : x.length ≤ 140737488351232) (k : Nat) (hk : 2 * x.length + 40 ≤ k) : impl_MayWrite.f k x = some (mayv x) := by
  unfold impl_MayWrite.f mayv
  rw [iblock x hz k (by omega)]
  simp only [Option.bind_some]
  by_cases b : blk x = true
  · have hs := blk_scan b
    rw [if_pos b, if_pos b]
    unfold impl_written_MayWrite.f
    have h := iwm x k [] x [] rfl hs.2 (by omega) (by simp) (blk_ok b) (by simp)
    rw [show (([] : List S39).length : Int) = 0 from rfl] at h
    rw [h]
    rfl
  · rw [if_neg b, if_neg b]
/-- What is written where nothing guards, from place i on. -/
def wn (p : Nat → Bool) : List S39 → Nat → List Int
  | [], _ => []
  | a :: t, i => if isw a = true then (if p i = true then wn p t (i + 1) else a.f1 :: wn p t (i + 1)) else wn p t (i + 1)
theorem wn_sub (p : Nat → Bool) (x : List S39) : ∀ (i : Nat) (y : Int), y ∈ wn p x i → y ∈ wl x := by
  induction x with
  | nil => intro i y h; exact h
  | cons a t ih =>
    intro i y h
    unfold wn at h
    unfold wl at ih ⊢
    rw [List.filter_cons]
    by_cases c : isw a = true
    · rw [if_pos c] at h ⊢
      rw [List.map_cons, List.mem_cons]
      by_cases d : p i = true
      · rw [if_pos d] at h; exact .inr (ih _ _ h)
      · rw [if_neg d, List.mem_cons] at h
        rcases h with h | h
        · exact .inl h
        · exact .inr (ih _ _ h)
    · rw [if_neg c] at h ⊢
      exact ih _ _ h
theorem wn_none (p : Nat → Bool) (x : List S39) : ∀ (i : Nat), (∀ j, i ≤ j → j < i + x.length → p j = false) → wn p x i = wl x := by
  induction x with
  | nil => intro i h; rfl
  | cons a t ih =>
    intro i h
    have e := ih (i + 1) (fun j h1 h2 => h j (by omega) (by simp only [List.length_cons]; omega))
    have h0 := h i (Nat.le_refl _) (by simp only [List.length_cons]; omega)
    unfold wn wl
    rw [List.filter_cons, e]
    by_cases c : isw a = true
    · rw [if_pos c, if_pos c, if_neg (by simp [h0])]; rfl
    · rw [if_neg c, if_neg c]; rfl
theorem iwn (p : Nat → Bool) (u : List S39) : ∀ (k : Nat) (pre x : List S39) (acc : List Int), x = pre ++ u → x.length ≤ 24 → u.length + 1 ≤ k → acc.length ≤ pre.length → (∀ a ∈ x, okS a = true) → (∀ y ∈ acc, 0 ≤ y ∧ y < 8) →
    impl_written_MustWrite.l0 k (gl x.length p) acc x (x.length : Int) (pre.length : Int) = some (asc8 (vin (acc ++ wn p u pre.length))) := by
  induction u with
  | nil =>
    intro k pre x acc hx hz hk ha ho hy
    obtain ⟨k, rfl⟩ : ∃ m, k = m + 1 := ⟨k - 1, by omega⟩
    have hl : x.length = pre.length := by simp [hx]
    simp only [impl_written_MustWrite.l0]
    rw [if_neg (by omega), show acc ++ wn p [] pre.length = acc from List.append_nil acc]
    exact wsort acc hy (by omega)
  | cons a t ih =>
    intro k pre x acc hx hz hk ha ho hy
    simp only [List.length_cons] at hk
    obtain ⟨k, rfl⟩ : ∃ m, k = m + 1 := ⟨k - 1, by omega⟩
    have hl : x.length = pre.length + (t.length + 1) := by simp [hx]
    have hr : rd_T39 x (pre.length : Int) = a := by rw [hx]; exact rd_app pre a t
    have hn : ((pre.length : Int) + 1) = (((pre ++ [a]).length : Nat) : Int) := by simp
    have hp : (pre ++ [a]).length = pre.length + 1 := by simp
    have hg := gl_rd x.length p pre.length (by omega)
    have hgl := gl_len x.length p
    simp only [impl_written_MustWrite.l0, impl_MustWrite_1.f]
    rw [if_pos (by omega), if_pos (by omega), if_pos (by omega), hr, hasv_eq, hg, hgl]
    simp only [Option.bind_some]
    rw [if_pos (show (0 : Int) ≤ (pre.length : Int) by omega), if_pos (show (pre.length : Int) < (x.length : Int) by omega)]
    simp only [Option.bind_some]
    rw [w64 (by omega) (by omega), hn]
    by_cases c : a.f0 = 1 ∨ a.f0 = 2
    · have hw : isw a = true := decide_eq_true c
      have hv := okS_var (ho a (by rw [hx]; simp)) hw
      rw [if_pos (decide_eq_true c)]
      by_cases d : p pre.length = true
      · have e : wn p (a :: t) pre.length = wn p t (pre.length + 1) := by
          have h4 : wn p (a :: t) pre.length = if isw a = true then (if p pre.length = true then wn p t (pre.length + 1) else a.f1 :: wn p t (pre.length + 1)) else wn p t (pre.length + 1) := rfl
          rw [h4, if_pos hw, if_pos d]
        rw [if_neg (by simp [d]), e, ← hp]
        exact ih k (pre ++ [a]) x acc (by simp [hx]) hz (by omega) (by omega) ho hy
      · have e : acc ++ wn p (a :: t) pre.length = (acc ++ [a.f1]) ++ wn p t (pre.length + 1) := by
          have h4 : wn p (a :: t) pre.length = if isw a = true then (if p pre.length = true then wn p t (pre.length + 1) else a.f1 :: wn p t (pre.length + 1)) else wn p t (pre.length + 1) := rfl
          rw [h4, if_pos hw, if_neg d]; simp
        rw [if_pos (by simp [d]), if_pos (by omega), e, ← hp]
        exact ih k (pre ++ [a]) x (acc ++ [a.f1]) (by simp [hx]) hz (by omega) (by simp; omega) ho (by
          intro y h; rw [List.mem_append, List.mem_singleton] at h
          rcases h with h | h
          · exact hy y h
          · rw [h]; exact hv)
    · have hw : ¬ isw a = true := fun h => c (of_decide_eq_true h)
      have e : wn p (a :: t) pre.length = wn p t (pre.length + 1) := by
        have h4 : wn p (a :: t) pre.length = if isw a = true then (if p pre.length = true then wn p t (pre.length + 1) else a.f1 :: wn p t (pre.length + 1)) else wn p t (pre.length + 1) := rfl
        rw [h4, if_neg hw]
      rw [if_neg (fun h => c (of_decide_eq_true h)), e, ← hp]
      exact ih k (pre ++ [a]) x acc (by simp [hx]) hz (by omega) (by omega) ho hy
/-- Where the condition at place q ends. -/
def ee (x : List S39) (q : Nat) : Int := fend (x.drop q) 0 (q : Int)
/-- Whether a condition that begins ahead of place i guards place j. -/
def grd (x : List S39) (i j : Nat) : Bool := (List.range i).any fun q => decide (q ≤ j) && (decide ((rd_T39 x (q : Int)).f0 = 4) && decide ((j : Int) ≤ ee x q))
theorem ee_tells {x : List S39} (b : blk x = true) (q : Nat) (hq : q < x.length) (o : (rd_T39 x (q : Int)).f0 = 4 ∨ (rd_T39 x (q : Int)).f0 = 5) (k : Nat) (hk : 60 ≤ k) : impl_endOf.f k x (q : Int) = some (ee x q) ∧ (q : Int) < ee x q ∧ ee x q < x.length := by
  have hs := blk_scan b
  obtain ⟨pre, a, u, hx, hp, hr⟩ := at_split x (q : Int) (by omega) (by omega)
  rw [hr] at o
  obtain ⟨s, c, r, e1, e2, e3, e4, _⟩ := if_end b hx o
  have hq2 : pre.length = q := by omega
  have hd : x.drop q = a :: u := by rw [hx, ← hq2]; exact List.drop_left' rfl
  have hl : x.length = pre.length + (s.length + (r.length + 1) + 1) := by rw [hx, e1]; simp
  have he : ee x q = (pre.length : Int) + 1 + s.length := by unfold ee; rw [hd, ← hq2]; exact e4
  refine ⟨?_, by omega, by omega⟩
  unfold impl_endOf.f
  rw [← hp, iend (a :: u) k pre x 0 hx (by omega) (by simp only [List.length_cons]; rw [e1]; simp only [List.length_append, List.length_cons]; omega) (Or.inr ⟨by omega, a, u, rfl, o⟩) (by omega), e4, he]
theorem guard_loop {x : List S39} (b : blk x = true) (i : Nat) (hi : i < x.length) (o : (rd_T39 x (i : Int)).f0 = 4) (d : Nat) : ∀ (k c : Nat) (p : Nat → Bool), (ee x i + 1 - (c : Int)) = d → i ≤ c → d + 61 ≤ k →
    impl_MustWrite.l1 k x (i : Int) (c : Int) x (x.length : Int) (i : Int) (gl x.length p) = impl_MustWrite.l0 (k - d - 1) x x (x.length : Int) ((i + 1 : Nat) : Int) (gl x.length (fun j => p j || (decide (c ≤ j) && decide ((j : Int) ≤ ee x i)))) := by
  have hs := blk_scan b
  induction d with
  | zero =>
    intro k c p hd hc hk
    obtain ⟨k, rfl⟩ : ∃ m, k = m + 1 := ⟨k - 1, by omega⟩
    obtain ⟨h1, h2, h3⟩ := ee_tells b i hi (.inl o) k (by omega)
    simp only [impl_MustWrite.l1]
    rw [h1]
    simp only [Option.bind_some]
    rw [if_neg (by omega), w64 (by omega) (by omega)]
    congr 1
    apply gl_congr
    intro j hj
    have : (decide (c ≤ j) && decide ((j : Int) ≤ ee x i)) = false := by simp; omega
    rw [this, Bool.or_false]
  | succ d ih =>
    intro k c p hd hc hk
    obtain ⟨k, rfl⟩ : ∃ m, k = m + 1 := ⟨k - 1, by omega⟩
    obtain ⟨h1, h2, h3⟩ := ee_tells b i hi (.inl o) k (by omega)
    simp only [impl_MustWrite.l1]
    rw [h1]
    simp only [Option.bind_some]
    rw [if_pos (by omega), if_pos (by omega), if_pos (by rw [gl_len]; omega), w64 (by omega) (by omega), Int.toNat_natCast, gl_set, show (c : Int) + 1 = ((c + 1 : Nat) : Int) by omega, ih k (c + 1) _ (by omega) (by omega) (by omega), show k + 1 - (d + 1) - 1 = k - d - 1 by omega]
    congr 1
    apply gl_congr
    intro j hj
    rw [Bool.or_assoc]
    congr 1
    rw [Bool.eq_iff_iff]
    simp only [Bool.or_eq_true, Bool.and_eq_true, decide_eq_true_eq]
    omega
theorem grd_succ (x : List S39) (i j : Nat) : grd x (i + 1) j = (grd x i j || (decide (i ≤ j) && (decide ((rd_T39 x (i : Int)).f0 = 4) && decide ((j : Int) ≤ ee x i)))) := by
  unfold grd
  rw [List.range_succ, List.any_append]
  simp
/-- What a block must write, ascending. -/
def mustv (x : List S39) : List Int := if blk x = true then asc8 (vin (wn (grd x x.length) x 0)) else []
theorem imust_loop {x : List S39} (b : blk x = true) (d : Nat) : ∀ (k i : Nat), x.length - i = d → i ≤ x.length → 26 * d + 61 ≤ k →
    impl_MustWrite.l0 k x x (x.length : Int) (i : Int) (gl x.length (grd x i)) = some (asc8 (vin (wn (grd x x.length) x 0))) := by
  have hs := blk_scan b
  induction d with
  | zero =>
    intro k i hd hi hk
    obtain ⟨k, rfl⟩ : ∃ m, k = m + 1 := ⟨k - 1, by omega⟩
    have hi2 : i = x.length := by omega
    subst hi2
    simp only [impl_MustWrite.l0]
    rw [if_neg (by omega)]
    unfold impl_written_MustWrite.f
    have h := iwn (grd x x.length) x k [] x [] rfl hs.2 (by omega) (by simp) (blk_ok b) (by simp)
    rw [show (([] : List S39).length : Int) = 0 from rfl] at h
    rw [h]
    rfl
  | succ d ih =>
    intro k i hd hi hk
    obtain ⟨k, rfl⟩ : ∃ m, k = m + 1 := ⟨k - 1, by omega⟩
    simp only [impl_MustWrite.l0]
    rw [if_pos (by omega), if_pos (by omega), if_pos (by omega)]
    by_cases o : (rd_T39 x (i : Int)).f0 = 4
    · obtain ⟨_, h2, h3⟩ := ee_tells b i (by omega) (.inl o) 60 (by omega)
      rw [if_pos o, guard_loop b i (by omega) o (ee x i + 1 - (i : Int)).toNat k i (grd x i) (by omega) (by omega) (by omega)]
      rw [gl_congr x.length _ (grd x (i + 1)) (fun j hj => by rw [grd_succ, decide_eq_true o, Bool.true_and])]
      exact ih _ (i + 1) (by omega) (by omega) (by omega)
    · rw [if_neg o, w64 (by omega) (by omega), show (i : Int) + 1 = ((i + 1 : Nat) : Int) by omega]
      rw [gl_congr x.length (grd x i) (grd x (i + 1)) (fun j hj => by rw [grd_succ, decide_eq_false o, Bool.false_and, Bool.and_false, Bool.or_false])]
      exact ih _ (i + 1) (by omega) (by omega) (by omega)
theorem imust (x : List S39) (hz : x.length ≤ 140737488351232) (k : Nat) (hk : 2 * x.length + 700 ≤ k) : impl_MustWrite.f k x = some (mustv x) := by
  unfold impl_MustWrite.f mustv
  rw [iblock x hz k (by omega)]
  simp only [Option.bind_some]
  by_cases b : blk x = true
  · have hs := blk_scan b
    rw [if_pos b, if_pos b, if_pos (by omega), if_pos (by omega), Int.toNat_natCast]
    have h := imust_loop b x.length k 0 (by omega) (by omega) (by omega)
    have e : List.replicate x.length false = gl x.length (grd x 0) := by
      apply List.ext_getElem
      · simp [gl]
      · intro j h1 h2
        simp [gl, grd]
    rw [e]
    exact h
  · rw [if_neg b, if_neg b]
/-- What is noted as read: the variables of l that are not written yet. -/
def nt (s : List Bool) : List Int → List Bool → List Bool
  | [], f => f
  | v :: l, f => nt s l (if s.getD v.toNat false = true then f else f.set v.toNat true)
theorem nt_len (s : List Bool) (l : List Int) : ∀ f : List Bool, (nt s l f).length = f.length := by
  induction l with
  | nil => intro f; rfl
  | cons v l ih =>
    intro f
    have h : nt s (v :: l) f = nt s l (if s.getD v.toNat false = true then f else f.set v.toNat true) := rfl
    rw [h, ih]
    split <;> simp
theorem app_get (s f : List Bool) (hs : s.length = 8) (j : Nat) (hj : j < 8) : (s ++ f).getD j false = s.getD j false := by
  rw [List.getD_eq_getElem?_getD, List.getD_eq_getElem?_getD, List.getElem?_append_left (by omega)]
theorem app_get8 (s f : List Bool) (hs : s.length = 8) (j : Nat) : (s ++ f).getD (8 + j) false = f.getD j false := by
  rw [List.getD_eq_getElem?_getD, List.getD_eq_getElem?_getD, List.getElem?_append_right (by omega), hs, show 8 + j - 8 = j by omega]
theorem app_set (s f : List Bool) (hs : s.length = 8) (j : Nat) (hj : j < 8) (b : Bool) : (s ++ f).set j b = s.set j b ++ f := by
  rw [List.set_append_left _ _ (by omega)]
theorem app_set8 (s f : List Bool) (hs : s.length = 8) (j : Nat) (b : Bool) : (s ++ f).set (8 + j) b = s ++ f.set j b := by
  rw [List.set_append_right _ _ (by omega), hs, show 8 + j - 8 = j by omega]
theorem at_app (pre : List Int) (v : Int) (t : List Int) : rd (pre ++ v :: t) (pre.length : Int) = v := by
  unfold Go.Proofs.YtlhcofkandeepaaW.PrintWords.rd
  simp [List.getD]
theorem ir0 (u : List Int) : ∀ (k : Nat) (pre l : List Int) (s f : List Bool), l = pre ++ u → l.length ≤ 1000 → s.length = 8 → f.length = 8 → u.length + 1 ≤ k → (∀ v ∈ u, 0 ≤ v ∧ v < 8) →
    impl_MayReadFirst.r0 k l (pre.length : Int) (s ++ f) = some (s ++ nt s u f) := by
  induction u with
  | nil =>
    intro k pre l s f hl hz hs hf hk hv
    obtain ⟨k, rfl⟩ : ∃ m, k = m + 1 := ⟨k - 1, by omega⟩
    simp only [impl_MayReadFirst.r0]
    rw [if_neg (by rw [hl]; simp)]
    rfl
  | cons v u ih =>
    intro k pre l s f hl hz hs hf hk hv
    simp only [List.length_cons] at hk
    obtain ⟨k, rfl⟩ : ∃ m, k = m + 1 := ⟨k - 1, by omega⟩
    have hlen : l.length = pre.length + (u.length + 1) := by rw [hl]; simp
    have hr : rd l (pre.length : Int) = v := by rw [hl]; exact at_app pre v u
    obtain ⟨h0, h1⟩ := hv v (List.mem_cons_self ..)
    have hn : ((pre.length : Int) + 1) = (((pre ++ [v]).length : Nat) : Int) := by simp
    have h : nt s (v :: u) f = nt s u (if s.getD v.toNat false = true then f else f.set v.toNat true) := rfl
    simp only [impl_MayReadFirst.r0]
    rw [if_pos (by omega), if_pos (by omega), hr, if_pos h0, if_pos h1, app_get s f hs _ (by omega), w64 (by omega) (by omega), hn, h, app_set8 s f hs]
    by_cases c : s.getD v.toNat false = true
    · rw [if_pos c, if_pos c]
      exact ih k (pre ++ [v]) l s f (by rw [hl]; simp) hz hs hf (by omega) (fun z hz => hv z (List.mem_cons_of_mem _ hz))
    · rw [if_neg c, if_neg c]
      exact ih k (pre ++ [v]) l s (f.set v.toNat true) (by rw [hl]; simp) hz hs (by rw [List.length_set]; exact hf) (by omega) (fun z hz => hv z (List.mem_cons_of_mem _ hz))
theorem rds_all (o a b : Int) : (rds o a b).length ≤ 8 ∧ ∀ v ∈ rds o a b, 0 ≤ v ∧ v < 8 := by
  by_cases h : eok o a b = true
  · refine ⟨?_, fun v hv => ?_⟩
    · unfold rds
      rw [if_pos h, List.length_map]
      exact Nat.le_trans (List.length_filter_le _ _) (by simp)
    · have := (mem_rds h v).1 hv
      exact ⟨this.1, this.2.1⟩
  · unfold rds
    rw [if_neg h]
    exact ⟨by simp, by simp⟩
theorem irf (s f : List Bool) (hs : s.length = 8) (hf : f.length = 8) (o a b : Int) (k : Nat) (hk : 20 ≤ k) : impl_MayReadFirst.rf k (s ++ f) o a b = some (s ++ nt s (rds o a b) f) := by
  unfold impl_MayReadFirst.rf
  rw [ireads o a b k (by omega)]
  simp only [Option.bind_some]
  obtain ⟨h1, h2⟩ := rds_all o a b
  exact ir0 (rds o a b) k [] _ s f rfl (by omega) hs hf (by omega) h2
theorem list8 (s : List Bool) (hs : s.length = 8) : ∃ a b c d e f g h, s = [a, b, c, d, e, f, g, h] := by
  match s, hs with
  | [a, b, c, d, e, f, g, h], _ => exact ⟨a, b, c, d, e, f, g, h, rfl⟩
theorem set8 (s s2 : List Bool) (h1 : s.length = 8) (h3 : s2.length = 8) : (((((((s2.set 0 (s.getD 0 false)).set 1 (s.getD 1 false)).set 2 (s.getD 2 false)).set 3 (s.getD 3 false)).set 4 (s.getD 4 false)).set 5 (s.getD 5 false)).set 6 (s.getD 6 false)).set 7 (s.getD 7 false) = s := by
  obtain ⟨a0, a1, a2, a3, a4, a5, a6, a7, rfl⟩ := list8 s h1
  obtain ⟨b0, b1, b2, b3, b4, b5, b6, b7, rfl⟩ := list8 s2 h3
  rfl
theorem rst_eq (s f s2 f2 : List Bool) (h1 : s.length = 8) (h2 : f.length = 8) (h3 : s2.length = 8) (h4 : f2.length = 8) : impl_MayReadFirst.rst (s2 ++ f2) (s ++ f) = s ++ f2 := by
  unfold impl_MayReadFirst.rst
  rw [app_get s f h1 0 (by omega), app_get s f h1 1 (by omega), app_get s f h1 2 (by omega), app_get s f h1 3 (by omega), app_get s f h1 4 (by omega), app_get s f h1 5 (by omega), app_get s f h1 6 (by omega), app_get s f h1 7 (by omega)]
  rw [app_set _ f2 h3 0 (by omega), app_set _ f2 (by simp [h3]) 1 (by omega), app_set _ f2 (by simp [h3]) 2 (by omega), app_set _ f2 (by simp [h3]) 3 (by omega), app_set _ f2 (by simp [h3]) 4 (by omega), app_set _ f2 (by simp [h3]) 5 (by omega), app_set _ f2 (by simp [h3]) 6 (by omega), app_set _ f2 (by simp [h3]) 7 (by omega), set8 s s2 h1 h3]
theorem hasexpr_eq (c : Int) : impl_hasExpr.f c = some (decide (c = 1 ∨ c = 3 ∨ c = 4)) := by
  unfold impl_hasExpr.f
  by_cases h : c = 1
  · simp [h]
  · rw [if_neg h]
    by_cases h3 : c = 3
    · simp [h3]
    · rw [if_neg h3]; congr 1; rw [Bool.eq_iff_iff]; simp [h, h3]
def PI (u : List S39) (s f s' f' : List Bool) (C : Nat) : Prop := ∀ (pre post : List S39) (r : List Bool) (K : Nat), (pre ++ (u ++ post)).length ≤ 24 →
  (∀ k, K ≤ k → impl_MayReadFirst.p0 k (pre ++ (u ++ post)) ((pre.length : Int) + u.length) (s' ++ f') = some r) → ∀ k, K + C ≤ k → impl_MayReadFirst.p0 k (pre ++ (u ++ post)) (pre.length : Int) (s ++ f) = some r
/-- What a plain statement does. -/
def ds (a : S39) (s : List Bool) : List Bool := if a.f0 = 1 ∨ a.f0 = 2 then s.set a.f1.toNat true else s
def df (a : S39) (s f : List Bool) : List Bool := if a.f0 = 1 ∨ a.f0 = 3 then nt s (rds a.f3.f0 a.f3.f1 a.f3.f2) f else f
theorem ds_len (a : S39) (s : List Bool) : (ds a s).length = s.length := by unfold ds; split <;> simp
theorem df_len (a : S39) (s f : List Bool) : (df a s f).length = f.length := by unfold df; split <;> simp [nt_len]
theorem okS_kind {a : S39} (h : okS a = true) : 1 ≤ a.f0 ∧ a.f0 ≤ 6 := by
  unfold okS sok at h
  by_cases c1 : a.f0 = 1
  · omega
  · by_cases c2 : a.f0 = 2
    · omega
    · by_cases c3 : a.f0 = 3
      · omega
      · by_cases c4 : a.f0 = 4
        · omega
        · by_cases c5 : a.f0 = 5
          · omega
          · by_cases c6 : a.f0 = 6
            · omega
            · rw [if_neg c1, if_neg c2, if_neg c3, if_neg c4, if_neg c5, if_neg c6] at h
              exact absurd h (by decide)
/-- The program's step at a statement that opens no condition. -/
theorem istep {x : List S39} {a : S39} (i : Int) (s f : List Bool) (hs : s.length = 8) (hf : f.length = 8) (h0 : 0 ≤ i) (h1 : i < (x.length : Int)) (hz : x.length ≤ 24) (hr : rd_T39 x i = a) (ok : okS a = true) (n4 : a.f0 ≠ 4) (k : Nat) (hk : 20 ≤ k) :
    impl_MayReadFirst.p0 (k + 1) x i (s ++ f) = impl_MayReadFirst.p0 k x (i + 1) (ds a s ++ df a s f) := by
  simp only [impl_MayReadFirst.p0]
  rw [if_pos h1, if_pos h0, hr, hasexpr_eq, hasv_eq]
  simp only [Option.bind_some, decide_eq_true_eq]
  rw [if_neg n4, w64 (by omega) (by omega)]
  by_cases e : a.f0 = 1 ∨ a.f0 = 3
  · rw [if_pos (show a.f0 = 1 ∨ a.f0 = 3 ∨ a.f0 = 4 by omega), irf s f hs hf _ _ _ k hk]
    simp only [Option.bind_some]
    have hdf : df a s f = nt s (rds a.f3.f0 a.f3.f1 a.f3.f2) f := by unfold df; rw [if_pos e]
    by_cases v : a.f0 = 1 ∨ a.f0 = 2
    · obtain ⟨v0, v1⟩ := okS_var ok (decide_eq_true v : isw a = true)
      have hds : ds a s = s.set a.f1.toNat true := by unfold ds; rw [if_pos v]
      rw [if_pos v, if_pos v0, if_pos v1, app_set s _ hs _ (by omega), hds, hdf]
    · have hds : ds a s = s := by unfold ds; rw [if_neg v]
      rw [if_neg v, hds, hdf]
  · rw [if_neg (show ¬ (a.f0 = 1 ∨ a.f0 = 3 ∨ a.f0 = 4) by omega)]
    have hdf : df a s f = f := by unfold df; rw [if_neg e]
    by_cases v : a.f0 = 1 ∨ a.f0 = 2
    · obtain ⟨v0, v1⟩ := okS_var ok (decide_eq_true v : isw a = true)
      have hds : ds a s = s.set a.f1.toNat true := by unfold ds; rw [if_pos v]
      rw [if_pos v, if_pos v0, if_pos v1, app_set s _ hs _ (by omega), hds, hdf]
    · have hds : ds a s = s := by unfold ds; rw [if_neg v]
      rw [if_neg v, hds, hdf]
theorem istep4 {x : List S39} {a : S39} (i : Int) (s f : List Bool) (hs : s.length = 8) (hf : f.length = 8) (h0 : 0 ≤ i) (h1 : i < (x.length : Int)) (hz : x.length ≤ 24) (hr : rd_T39 x i = a) (c4 : a.f0 = 4) (k : Nat) (hk : 20 ≤ k)
    (e : Int) (hE : impl_endOf.f k x i = some e) (he1 : i + 1 ≤ e) (he2 : e ≤ (x.length : Int)) (u : List S39) (hcut : (x.take e.toNat).drop (i + 1).toNat = u) (y : List Bool) (hsub : impl_MayReadFirst.pf k u (s ++ nt s (rds a.f3.f0 a.f3.f1 a.f3.f2) f) = some y) :
    impl_MayReadFirst.p0 (k + 1) x i (s ++ f) = impl_MayReadFirst.p0 k x (e + 1) (impl_MayReadFirst.rst y (s ++ nt s (rds a.f3.f0 a.f3.f1 a.f3.f2) f)) := by
  simp only [impl_MayReadFirst.p0]
  rw [if_pos h1, if_pos h0, hr, hasexpr_eq, hasv_eq]
  simp only [Option.bind_some, decide_eq_true_eq]
  rw [if_pos c4, if_pos (show a.f0 = 1 ∨ a.f0 = 3 ∨ a.f0 = 4 by omega), if_neg (show ¬ (a.f0 = 1 ∨ a.f0 = 2) by omega), irf s f hs hf _ _ _ k hk]
  simp only [Option.bind_some]
  rw [hE]
  simp only [Option.bind_some]
  rw [w64 (n := i + 1) (by omega) (by omega), if_pos (by omega), if_pos he1, if_pos he2, hcut, hsub]
  simp only [Option.bind_some]
  rw [w64 (by omega) (by omega)]
theorem pn4i {a c : S39} {u1 r0 : List S39} (h1 : a.f0 = 4 ∨ a.f0 = 5) (h2 : c.f0 = 6) (hbs : Bal u1) {s f s1 f1 s2 f2 : List Bool} {C1 C2 : Nat} (hs : s.length = 8) (hf : f.length = 8) (hs1 : s1.length = 8) (hf1 : f1.length = 8) (c4 : a.f0 = 4) (hi1 : PI u1 s (nt s (rds a.f3.f0 a.f3.f1 a.f3.f2) f) s1 f1 C1) (hi2 : PI r0 s f1 s2 f2 C2) : PI (a :: (u1 ++ c :: r0)) s f s2 f2 (C1 + C2 + 100) := by
  intro pre post r K hl h k hk
  have hlen : (pre ++ ((a :: (u1 ++ c :: r0)) ++ post)).length = pre.length + (u1.length + (r0.length + 1) + 1 + post.length) := by simp; omega
  have hr : rd_T39 (pre ++ ((a :: (u1 ++ c :: r0)) ++ post)) (pre.length : Int) = a := rd_app pre a ((u1 ++ c :: r0) ++ post)
  have hx2 : pre ++ ((a :: (u1 ++ c :: r0)) ++ post) = (pre ++ a :: (u1 ++ [c])) ++ (r0 ++ post) := by simp
  have hn2 : (((pre ++ a :: (u1 ++ [c])).length : Nat) : Int) = (pre.length : Int) + 1 + u1.length + 1 := by simp; omega
  have hl3 : (((a :: (u1 ++ c :: r0)).length : Nat) : Int) = 1 + u1.length + 1 + r0.length := by simp; omega
  have hcut : ((pre ++ ((a :: (u1 ++ c :: r0)) ++ post)).take ((pre.length : Int) + 1 + (u1.length : Int)).toNat).drop ((pre.length : Int) + 1).toNat = u1 := by
    have e1 : pre ++ ((a :: (u1 ++ c :: r0)) ++ post) = (pre ++ [a]) ++ (u1 ++ (c :: (r0 ++ post))) := by simp
    have e2 : ((pre.length : Int) + 1 + (u1.length : Int)).toNat = (pre ++ [a]).length + u1.length := by simp; omega
    have e3 : ((pre.length : Int) + 1).toNat = (pre ++ [a]).length := by rw [List.length_append, List.length_singleton]; omega
    rw [e1, e2, e3, List.take_length_add_append, List.drop_left' rfl]
    exact List.take_left' rfl
  have hE : ∀ k, 60 ≤ k → impl_endOf.f k (pre ++ ((a :: (u1 ++ c :: r0)) ++ post)) (pre.length : Int) = some ((pre.length : Int) + 1 + u1.length) := by
    intro k hk
    unfold impl_endOf.f
    have e1 : (a :: (u1 ++ c :: r0)) ++ post = a :: (u1 ++ c :: (r0 ++ post)) := by simp
    rw [iend ((a :: (u1 ++ c :: r0)) ++ post) k pre _ 0 rfl (by omega) (by simp only [List.length_append, List.length_cons] at hl ⊢; omega) (Or.inr ⟨by omega, a, _, rfl, h1⟩) (by omega), e1, fend_node h1 h2 hbs]
  have hsub : ∀ k, C1 + 2 ≤ k → impl_MayReadFirst.pf k u1 (s ++ nt s (rds a.f3.f0 a.f3.f1 a.f3.f2) f) = some (s1 ++ f1) := by
    intro k hk
    obtain ⟨k, rfl⟩ : ∃ m, k = m + 1 := ⟨k - 1, by omega⟩
    simp only [impl_MayReadFirst.pf]
    have := hi1 [] [] (s1 ++ f1) 1 (by simp; omega) (fun k' hk' => by
      obtain ⟨k', rfl⟩ : ∃ m, k' = m + 1 := ⟨k' - 1, by omega⟩
      simp only [impl_MayReadFirst.p0]
      rw [if_neg (by simp)]) k (by omega)
    simpa using this
  obtain ⟨k, rfl⟩ : ∃ m, k = m + 1 := ⟨k - 1, by omega⟩
  rw [istep4 (pre.length : Int) s f hs hf (by omega) (by omega) hl hr c4 k (by omega) ((pre.length : Int) + 1 + u1.length) (hE k (by omega)) (by omega) (by omega) u1 hcut (s1 ++ f1) (hsub k (by omega)), rst_eq _ _ _ _ hs (by rw [nt_len]; exact hf) hs1 hf1, hx2, ← hn2]
  refine hi2 (pre ++ a :: (u1 ++ [c])) post r K (by rw [← hx2]; exact hl) (fun k2 hk2 => ?_) k (by omega)
  have := h k2 hk2
  rw [hx2] at this
  rw [show (((pre ++ a :: (u1 ++ [c])).length : Nat) : Int) + (r0.length : Int) = (pre.length : Int) + ((a :: (u1 ++ c :: r0)).length : Int) by omega]
  exact this
theorem pn5i {a c : S39} {u1 r0 : List S39} (h1 : a.f0 = 4 ∨ a.f0 = 5) (h2 : c.f0 = 6) (hbs : Bal u1) {s f s1 f1 s2 f2 : List Bool} {C1 C2 : Nat} (hs : s.length = 8) (hf : f.length = 8) (hs1 : s1.length = 8) (hf1 : f1.length = 8) (c4 : ¬ a.f0 = 4) (c5 : a.f0 = 5) (oka : okS a = true) (okc : okS c = true) (hda : ds a s = s) (hdb : df a s f = f) (hdc : ds c s1 = s1) (hdd : df c s1 f1 = f1) (hi1 : PI u1 s f s1 f1 C1) (hi2 : PI r0 s1 f1 s2 f2 C2) : PI (a :: (u1 ++ c :: r0)) s f s2 f2 (C1 + C2 + 100) := by
  intro pre post r K hl h k hk
  have hlen : (pre ++ ((a :: (u1 ++ c :: r0)) ++ post)).length = pre.length + (u1.length + (r0.length + 1) + 1 + post.length) := by simp; omega
  have hr : rd_T39 (pre ++ ((a :: (u1 ++ c :: r0)) ++ post)) (pre.length : Int) = a := rd_app pre a ((u1 ++ c :: r0) ++ post)
  have hx1 : pre ++ ((a :: (u1 ++ c :: r0)) ++ post) = (pre ++ [a]) ++ (u1 ++ (c :: (r0 ++ post))) := by simp
  have hx3 : pre ++ ((a :: (u1 ++ c :: r0)) ++ post) = (pre ++ a :: u1) ++ c :: (r0 ++ post) := by simp
  have hx2 : pre ++ ((a :: (u1 ++ c :: r0)) ++ post) = (pre ++ a :: (u1 ++ [c])) ++ (r0 ++ post) := by simp
  have hn1 : (((pre ++ [a]).length : Nat) : Int) = (pre.length : Int) + 1 := by simp
  have hn3 : (((pre ++ a :: u1).length : Nat) : Int) = (pre.length : Int) + 1 + u1.length := by simp; omega
  have hn2 : (((pre ++ a :: (u1 ++ [c])).length : Nat) : Int) = (pre.length : Int) + 1 + u1.length + 1 := by simp; omega
  have hl3 : (((a :: (u1 ++ c :: r0)).length : Nat) : Int) = 1 + u1.length + 1 + r0.length := by simp; omega
  have hrc : rd_T39 (pre ++ ((a :: (u1 ++ c :: r0)) ++ post)) ((pre.length : Int) + 1 + u1.length) = c := by rw [hx3, ← hn3]; exact rd_app _ c _
  obtain ⟨k, rfl⟩ : ∃ m, k = m + 1 := ⟨k - 1, by omega⟩
  rw [istep (pre.length : Int) s f hs hf (by omega) (by omega) hl hr oka c4 k (by omega), hda, hdb, hx1, ← hn1]
  refine hi1 (pre ++ [a]) (c :: (r0 ++ post)) r (K + C2 + 40) (by rw [← hx1]; exact hl) (fun k' hk' => ?_) k (by omega)
  obtain ⟨k', rfl⟩ : ∃ m, k' = m + 1 := ⟨k' - 1, by omega⟩
  rw [← hx1, hn1, istep ((pre.length : Int) + 1 + u1.length) s1 f1 hs1 hf1 (by omega) (by omega) hl hrc okc (by omega) k' (by omega), hdc, hdd, hx2, ← hn2]
  refine hi2 (pre ++ a :: (u1 ++ [c])) post r K (by rw [← hx2]; exact hl) (fun k2 hk2 => ?_) k' (by omega)
  have := h k2 hk2
  rw [hx2] at this
  rw [show (((pre ++ a :: (u1 ++ [c])).length : Nat) : Int) + (r0.length : Int) = (pre.length : Int) + ((a :: (u1 ++ c :: r0)).length : Int) by omega]
  exact this
theorem ptells {u : List S39} (h : Bal u) : (∀ a ∈ u, okS a = true) → ∀ s f : List Bool, s.length = 8 → f.length = 8 → ∃ s' f' C, s'.length = 8 ∧ f'.length = 8 ∧ PI u s f s' f' C := by
  induction h with
  | nil =>
    intro _ s f hs hf
    refine ⟨s, f, 0, hs, hf, fun pre post r K hl h k hk => ?_⟩
    simpa using h k (by omega)
  | plain a t h1 h2 _ ih =>
    intro ok s f hs hf
    have oka := ok a (List.mem_cons_self ..)
    obtain ⟨s', f', C, hs', hf', hi⟩ := ih (fun z hz => ok z (List.mem_cons_of_mem _ hz)) (ds a s) (df a s f) (by rw [ds_len]; exact hs) (by rw [df_len]; exact hf)
    refine ⟨s', f', C + 30, hs', hf', fun pre post r K hl h k hk => ?_⟩
    · obtain ⟨k, rfl⟩ : ∃ m, k = m + 1 := ⟨k - 1, by omega⟩
      have hx : pre ++ ((a :: t) ++ post) = (pre ++ [a]) ++ (t ++ post) := by simp
      have hr : rd_T39 (pre ++ ((a :: t) ++ post)) (pre.length : Int) = a := rd_app pre a (t ++ post)
      have hlen : (pre ++ ((a :: t) ++ post)).length = pre.length + (t.length + 1 + post.length) := by simp; omega
      have hn : ((pre.length : Int) + 1) = (((pre ++ [a]).length : Nat) : Int) := by simp
      rw [istep (pre.length : Int) s f hs hf (by omega) (by omega) hl hr oka (by omega) k (by omega), hn, hx]
      refine hi (pre ++ [a]) post r K (by rw [← hx]; exact hl) (fun k' hk' => ?_) k (by omega)
      have := h k' hk'
      rw [hx] at this
      rw [← hn, show (pre.length : Int) + 1 + (t.length : Int) = (pre.length : Int) + ((a :: t).length : Int) by simp; omega]
      exact this
  | node a u1 c r0 h1 h2 hbs _ ihs ihr =>
    intro ok s f hs hf
    have oka := ok a (by simp)
    have okc := ok c (by simp)
    by_cases c4 : a.f0 = 4
    · obtain ⟨s1, f1, C1, hs1, hf1, hi1⟩ := ihs (fun z hz => ok z (by simp [hz])) s (nt s (rds a.f3.f0 a.f3.f1 a.f3.f2) f) hs (by rw [nt_len]; exact hf)
      obtain ⟨s2, f2, C2, hs2, hf2, hi2⟩ := ihr (fun z hz => ok z (by simp [hz])) s f1 hs hf1
      exact ⟨s2, f2, C1 + C2 + 100, hs2, hf2, pn4i h1 h2 hbs hs hf hs1 hf1 c4 hi1 hi2⟩
    · have c5 : a.f0 = 5 := by omega
      obtain ⟨s1, f1, C1, hs1, hf1, hi1⟩ := ihs (fun z hz => ok z (by simp [hz])) s f hs hf
      obtain ⟨s2, f2, C2, hs2, hf2, hi2⟩ := ihr (fun z hz => ok z (by simp [hz])) s1 f1 hs1 hf1
      have hda : ds a s = s := by unfold ds; rw [if_neg (by omega)]
      have hdb : df a s f = f := by unfold df; rw [if_neg (by omega)]
      have hdc : ds c s1 = s1 := by unfold ds; rw [if_neg (by omega)]
      have hdd : df c s1 f1 = f1 := by unfold df; rw [if_neg (by omega)]
      exact ⟨s2, f2, C1 + C2 + 100, hs2, hf2, pn5i h1 h2 hbs hs hf hs1 hf1 c4 c5 oka okc hda hdb hdc hdd hi1 hi2⟩
theorem iq0 (s f : List Bool) (hs : s.length = 8) (d : Nat) : ∀ (k : Nat) (acc : List Int) (i : Nat), i + d = 8 → d < k → acc.length ≤ i →
    impl_MayReadFirst.q0 k (s ++ f) (i : Int) acc = some (acc ++ ((List.range' i d).filter (fun j => f.getD j false)).map (fun i : Nat => (i : Int))) := by
  induction d with
  | zero =>
    intro k acc i hi hk hl
    obtain ⟨k, rfl⟩ : ∃ m, k = m + 1 := ⟨k - 1, by omega⟩
    simp only [impl_MayReadFirst.q0]
    rw [if_neg (by omega)]
    simp
  | succ d ih =>
    intro k acc i hi hk hl
    obtain ⟨k, rfl⟩ : ∃ m, k = m + 1 := ⟨k - 1, by omega⟩
    simp only [impl_MayReadFirst.q0]
    rw [if_pos (by omega), if_pos (by omega), Int.toNat_natCast, app_get8 s f hs, show (i : Int) + 1 = ((i + 1 : Nat) : Int) by omega, List.range'_succ, List.filter_cons]
    by_cases h : f.getD i false = true
    · rw [if_pos h, if_pos (by omega), if_pos h, ih k _ (i + 1) (by omega) (by omega) (by simp; omega)]
      simp
    · rw [if_neg h, if_neg h, ih k _ (i + 1) (by omega) (by omega) (by omega)]
/-- What may be read before it is written: the program's answer. -/
theorem readfirst (x : List S39) (o a b : Int) (hz : x.length ≤ 1048576) : ∃ p K, ∀ k, K ≤ k → impl_MayReadFirst.f k x o a b = some (asc8 p) := by
  by_cases hb : blk x = true
  · have hsc := blk_scan hb
    by_cases he : eok o a b = true
    · obtain ⟨s, f, C, hs, hf, hi⟩ := ptells (blk_bal hb) (blk_ok hb) (List.replicate 8 false) (List.replicate 8 false) rfl rfl
      have hg : (nt s (rds o a b) f).length = 8 := by rw [nt_len]; exact hf
      refine ⟨fun j => (nt s (rds o a b) f).getD j false, C + 100, fun k hk => ?_⟩
      · unfold impl_MayReadFirst.f impl_taskOk.f
        rw [iblock x (by omega) k (by omega)]
        simp only [Option.bind_some]
        rw [if_pos hb, iexpr]
        simp only [Option.bind_some]
        rw [if_pos he]
        have h1 : impl_MayReadFirst.pf k x (List.replicate 16 false) = some (s ++ f) := by
          obtain ⟨k, rfl⟩ : ∃ m, k = m + 1 := ⟨k - 1, by omega⟩
          simp only [impl_MayReadFirst.pf]
          have := hi [] [] (s ++ f) 1 (by simp; omega) (fun k' hk' => by
            obtain ⟨k', rfl⟩ : ∃ m, k' = m + 1 := ⟨k' - 1, by omega⟩
            simp only [impl_MayReadFirst.p0]
            rw [if_neg (by simp)]) k (by omega)
          simpa using this
        rw [h1]
        simp only [Option.bind_some]
        rw [irf s f hs hf o a b k (by omega)]
        simp only [Option.bind_some]
        have h2 := iq0 s (nt s (rds o a b) f) hs 8 k [] 0 (by omega) (by omega) (by simp)
        unfold asc8
        rw [List.range_eq_range']
        exact h2
    · refine ⟨fun _ => false, 2 * x.length + 100, fun k hk => ?_⟩
      · unfold impl_MayReadFirst.f impl_taskOk.f
        rw [iblock x (by omega) k (by omega)]
        simp only [Option.bind_some]
        rw [if_pos hb, iexpr]
        simp only [Option.bind_some]
        rw [if_neg he]
        rfl
  · refine ⟨fun _ => false, 2 * x.length + 100, fun k hk => ?_⟩
    · unfold impl_MayReadFirst.f impl_taskOk.f
      rw [iblock x (by omega) k (by omega)]
      simp only [Option.bind_some]
      rw [if_neg hb]
      rfl
theorem mayv_len (x : List S39) : (mayv x).length ≤ 8 := by
  unfold mayv
  by_cases b : blk x = true
  · rw [if_pos b]; exact asc8_len _
  · rw [if_neg b]; simp
theorem mustv_len (x : List S39) : (mustv x).length ≤ 8 := by
  unfold mustv
  by_cases b : blk x = true
  · rw [if_pos b]; exact asc8_len _
  · rw [if_neg b]; simp
def tkk (x : List S39) (o a b : Int) : Bool := blk x && eok o a b
theorem itok (x : List S39) (o a b : Int) (hz : x.length ≤ 1048576) (k : Nat) (hk : 2 * x.length + 10 ≤ k) : impl_taskOk.f k x o a b = some (tkk x o a b) := by
  unfold impl_taskOk.f tkk
  rw [iblock x (by omega) k (by omega)]
  simp only [Option.bind_some]
  by_cases h : blk x = true
  · rw [if_pos h, iexpr, h]; rfl
  · rw [if_neg h, Bool.eq_false_iff.mpr h]; rfl
/-- What has to be saved: the program's answer. -/
theorem imustlog (x : List S39) (o a b : Int) (hz : x.length ≤ 1048576) : ∃ v K, v.length ≤ 8 ∧ (∀ y ∈ v, y ∈ mayv x) ∧ ∀ k, K ≤ k → impl_MustLog.f k x o a b = some v := by
  obtain ⟨p, K, hK⟩ := readfirst x o a b hz
  have l1 := mayv_len x
  have l2 := mustv_len x
  have l3 := asc8_len p
  by_cases h : tkk x o a b = true
  · refine ⟨(mayv x).filter fun v => !slices_DeleteFunc_MustLog.del (asc8 p) (mustv x) v, K + 2 * x.length + 1000, Nat.le_trans (List.length_filter_le _ _) l1, fun y hy => (List.mem_filter.1 hy).1, fun k hk => ?_⟩
    have e1 := hK k (by omega)
    unfold impl_MustLog.f
    rw [itok x o a b hz k (by omega)]
    simp only [Option.bind_some]
    rw [if_pos h, e1]
    simp only [Option.bind_some]
    rw [imust x (by omega) k (by omega), imay x (by omega) k (by omega)]
    simp only [Option.bind_some]
    unfold slices_DeleteFunc_MustLog.f
    rw [if_pos (by omega)]
    rfl
  · refine ⟨[], K + 2 * x.length + 1000, by simp, by simp, fun k hk => ?_⟩
    unfold impl_MustLog.f
    rw [itok x o a b hz k (by omega)]
    simp only [Option.bind_some]
    rw [if_neg h]
theorem rd_appT (pre : List S47) (a : S47) (t : List S47) : rd_T47 (pre ++ a :: t) (pre.length : Int) = a := by
  unfold rd_T47
  simp [List.getD]
theorem prog_loop (l : List Int) (d : Nat) : ∀ (k : Nat) (out : List S47) (j i g : Int), OkC l i → 0 ≤ j → (out.length : Int) = j → 3 - j = d → d + 40 < k → (1 ≤ j ∨ d = 3) → (∀ s ∈ out, tok s = true) →
    ∃ p i' g', spec_l06Program.l0 k j l i g out = some (p, i', g') ∧ 1 ≤ p.length ∧ p.length ≤ 3 ∧ ∀ s ∈ p, tok s = true := by
  induction d with
  | zero =>
    intro k out j i g ok h0 hl hd hk hj ho
    obtain ⟨k, rfl⟩ : ∃ m, k = m + 1 := ⟨k - 1, by omega⟩
    simp only [spec_l06Program.l0]
    obtain ⟨x, i1, g1, e1, ok1, x0, x1⟩ := below_tells g 3 ok (by omega)
    rw [e1]
    simp only [Option.bind_some]
    rw [w64 (n := 1 + x) (by omega) (by omega), if_neg (by omega)]
    exact ⟨_, _, _, rfl, by omega, by omega, ho⟩
  | succ d ih =>
    intro k out j i g ok h0 hl hd hk hj ho
    obtain ⟨k, rfl⟩ : ∃ m, k = m + 1 := ⟨k - 1, by omega⟩
    simp only [spec_l06Program.l0]
    obtain ⟨x, i1, g1, e1, ok1, x0, x1⟩ := below_tells g 3 ok (by omega)
    rw [e1]
    simp only [Option.bind_some]
    rw [w64 (n := 1 + x) (by omega) (by omega)]
    by_cases c : j < 1 + x
    · rw [if_pos c]
      obtain ⟨b, i2, g2, e2, ok2, hb⟩ := case_in g1 ok1 k (by omega)
      obtain ⟨o, a, q, i3, g3, e3, ok3, he⟩ := expr_in g2 ok2
      rw [e2]
      simp only [Option.bind_some]
      rw [e3]
      simp only [Option.bind_some]
      rw [if_pos (by omega), w64 (n := j + 1) (by omega) (by omega)]
      refine ih k _ (j + 1) i3 g3 ok3 (by omega) (by simp; omega) (by omega) (by omega) (Or.inl (by omega)) ?_
      intro s hs
      rcases List.mem_append.1 hs with h | h
      · exact ho s h
      · rw [List.mem_singleton.1 h]; unfold tok; simp only; rw [hb, he]; rfl
    · rw [if_neg c]
      exact ⟨_, _, _, rfl, by omega, by omega, ho⟩
theorem tok_len {s : S47} (h : tok s = true) : s.f0.length ≤ 24 := by
  unfold tok at h
  rw [Bool.and_eq_true] at h
  have := h.1
  unfold blk fin at this
  rw [Bool.and_eq_true] at this
  exact of_decide_eq_true this.2
theorem drawProg (l : List Int) (sz : (l.length : Int) ≤ 140737488351232) : ∃ p, (∀ k, l.length + 50 ≤ k → spec_DrawProgram.f k l = some p) ∧ pok p = true ∧ Small p ∧ ∀ s ∈ p, tok s = true := by
  obtain ⟨g, eg⟩ := new_tells l sz
  obtain ⟨p, i', g', e, h1, h3, ht⟩ := prog_loop l 3 44 [] 0 0 g (ok_start sz) (by omega) (by simp) (by omega) (by omega) (Or.inr rfl) (by simp)
  refine ⟨p, fun k hk => ?_, ?_, ⟨by omega, fun s hs => ?_⟩, ht⟩
  · unfold spec_DrawProgram.f spec_l06Program.f
    rw [eg k (by omega)]
    simp only [Option.bind_some]
    rw [at_rounds (fun k => spec_l06Program.mono_l k _ _ _ _ _) (by omega : 44 ≤ k) e]
    rfl
  · unfold pok
    rw [Bool.and_eq_true, List.all_eq_true]
    exact ⟨decide_eq_true (by omega), ht⟩
  · have := tok_len (ht s hs)
    omega
/-- What a task has to save. -/
def Saves (V : S47 → List Int) : Prop := ∀ s : S47, s.f0.length ≤ 1048576 → (V s).length ≤ 8 ∧ (∀ y ∈ V s, y ∈ mayv s.f0) ∧ ∃ K, ∀ k, K ≤ k → impl_MustLog.f k s.f0 s.f1.f0 s.f1.f1 s.f1.f2 = some (V s)
theorem saves : ∃ V, Saves V := by
  have h : ∀ s : S47, ∃ v : List Int, s.f0.length ≤ 1048576 → v.length ≤ 8 ∧ (∀ y ∈ v, y ∈ mayv s.f0) ∧ ∃ K, ∀ k, K ≤ k → impl_MustLog.f k s.f0 s.f1.f0 s.f1.f1 s.f1.f2 = some v := by
    intro s
    by_cases c : s.f0.length ≤ 1048576
    · obtain ⟨v, K, h1, h2, h3⟩ := imustlog s.f0 s.f1.f0 s.f1.f1 s.f1.f2 c
      exact ⟨v, fun _ => ⟨h1, h2, K, h3⟩⟩
    · exact ⟨[], fun h => absurd h c⟩
  obtain ⟨V, hV⟩ := Classical.axiomOfChoice h
  exact ⟨V, hV⟩
theorem room_loop {V : S47 → List Int} (hV : Saves V) (u : List S47) : ∀ (pre p : List S47) (acc : Int), p = pre ++ u → p.length ≤ 1048576 → (∀ s ∈ p, s.f0.length ≤ 1048576) → 0 ≤ acc → acc ≤ 8 →
    ∃ r K, acc ≤ r ∧ r ≤ 8 ∧ (∀ s ∈ u, ((V s).length : Int) ≤ r) ∧ ∀ k, K ≤ k → impl_LogRoom.l0 k acc p (p.length : Int) (pre.length : Int) = some r := by
  induction u with
  | nil =>
    intro pre p acc hp hz _ a0 a8
    refine ⟨acc, 1, Int.le_refl _, a8, by simp, fun k hk => ?_⟩
    obtain ⟨k, rfl⟩ : ∃ m, k = m + 1 := ⟨k - 1, by omega⟩
    have hl : p.length = pre.length := by rw [hp]; simp
    simp only [impl_LogRoom.l0]
    rw [if_neg (by omega)]
  | cons s u ih =>
    intro pre p acc hp hz hb a0 a8
    have hl : p.length = pre.length + (u.length + 1) := by rw [hp]; simp
    have hr : rd_T47 p (pre.length : Int) = s := by rw [hp]; exact rd_appT pre s u
    have hn : ((pre.length : Int) + 1) = (((pre ++ [s]).length : Nat) : Int) := by simp
    obtain ⟨v8, _, K1, h1⟩ := hV s (hb s (by rw [hp]; simp))
    have m1 : acc ≤ mx acc ((V s).length : Int) := by unfold mx; split <;> omega
    have m2 : ((V s).length : Int) ≤ mx acc ((V s).length : Int) := by unfold mx; split <;> omega
    have m3 : mx acc ((V s).length : Int) ≤ 8 := by unfold mx; split <;> omega
    obtain ⟨r, K2, r1, r2, r3, h2⟩ := ih (pre ++ [s]) p (mx acc ((V s).length : Int)) (by rw [hp]; simp) hz hb (by omega) m3
    refine ⟨r, K1 + K2 + 1, by omega, r2, fun z hz => ?_, fun k hk => ?_⟩
    · rcases List.mem_cons.1 hz with e | e
      · rw [e]; omega
      · exact r3 z e
    · obtain ⟨k, rfl⟩ : ∃ m, k = m + 1 := ⟨k - 1, by omega⟩
      have e1 := h1 k (by omega)
      have e2 := h2 k (by omega)
      simp only [impl_LogRoom.l0]
      rw [if_pos (by omega), if_pos (by omega), if_pos (by omega), hr, e1, w64 (by omega) (by omega), hn]
      simp only [Option.bind_some]
      exact e2
theorem in_loop {V : S47 → List Int} (hV : Saves V) (s : S47) (hs : s.f0.length ≤ 1048576) (room j : Int) (p : List S47) (K : Nat) (h0 : ∀ k, K ≤ k → laws_FnLogs.l0 k room (wrap64 (j + 1)) p = some true) (K1 : Nat) (h1 : ∀ k, K1 ≤ k → impl_MustLog.f k s.f0 s.f1.f0 s.f1.f1 s.f1.f2 = some (V s)) (d : Nat) :
    ∀ (k : Nat) (i : Int), 0 ≤ i → 8 - i = d → K + K1 + d + 40 ≤ k → laws_FnLogs.l1 k room j (V s) (mayv s.f0) i p s.f0 s.f1.f0 s.f1.f1 s.f1.f2 = some true := by
  obtain ⟨v8, vm, _⟩ := hV s hs
  have m8 := mayv_len s.f0
  induction d with
  | zero =>
    intro k i i0 hd hk
    obtain ⟨k, rfl⟩ : ∃ m, k = m + 1 := ⟨k - 1, by omega⟩
    simp only [laws_FnLogs.l1]
    rw [if_neg (by omega)]
    exact h0 k (by omega)
  | succ d ih =>
    intro k i i0 hd hk
    obtain ⟨k, rfl⟩ : ∃ m, k = m + 1 := ⟨k - 1, by omega⟩
    have hm : ∀ l : List Int, l.length ≤ 8 → laws_has.f k l i = some (decide (i ∈ l)) := by
      intro l hl
      unfold laws_has.f
      rw [has_loop l i (by omega) l.length k 0 (by omega) (by omega) (by omega)]
      rfl
    have hi : impl_NeedsLog.f k s.f0 s.f1.f0 s.f1.f1 s.f1.f2 i = some (decide (i ∈ V s)) := by
      unfold impl_NeedsLog.f
      rw [h1 k (by omega)]
      simp only [Option.bind_some]
      rw [ihas (V s) i (by omega) _ (by omega)]
      rfl
    simp only [laws_FnLogs.l1]
    rw [if_pos (by omega), hm (V s) v8, hm (mayv s.f0) m8, hi, w64 (by omega) (by omega), ih k (i + 1) (by omega) (by omega) (by omega)]
    simp only [Option.bind_some, bne_self_eq_false, Bool.false_eq_true, if_false, decide_eq_true_eq]
    by_cases a : i ∈ V s
    · rw [if_pos a, if_pos (vm i a)]
    · rw [if_neg a]
theorem out_loop {V : S47 → List Int} (hV : Saves V) (room : Int) (q0 : 0 ≤ room) (q8 : room ≤ 8) (u : List S47) : ∀ (pre p : List S47), p = pre ++ u → p.length ≤ 1048576 → (∀ s ∈ p, tok s = true) → (∀ s ∈ u, ((V s).length : Int) ≤ room) →
    ∃ K, ∀ k, K ≤ k → laws_FnLogs.l0 k room (pre.length : Int) p = some true := by
  induction u with
  | nil =>
    intro pre p hp hz _ _
    refine ⟨1, fun k hk => ?_⟩
    obtain ⟨k, rfl⟩ : ∃ m, k = m + 1 := ⟨k - 1, by omega⟩
    have hl : p.length = pre.length := by rw [hp]; simp
    simp only [laws_FnLogs.l0]
    rw [if_neg (by omega), if_pos q0, decide_eq_true q8]
  | cons s u ih =>
    intro pre p hp hz hb hr8
    have hl : p.length = pre.length + (u.length + 1) := by rw [hp]; simp
    have hr : rd_T47 p (pre.length : Int) = s := by rw [hp]; exact rd_appT pre s u
    have hn : ((pre.length : Int) + 1) = (((pre ++ [s]).length : Nat) : Int) := by simp
    have ht := hb s (by rw [hp]; simp)
    have h24 := tok_len ht
    obtain ⟨v8, _, K1, h1⟩ := hV s (by omega)
    obtain ⟨K2, h2⟩ := ih (pre ++ [s]) p (by rw [hp]; simp) hz hb (fun z h => hr8 z (List.mem_cons_of_mem _ h))
    have h2' : ∀ k, K2 ≤ k → laws_FnLogs.l0 k room (wrap64 ((pre.length : Int) + 1)) p = some true := by
      intro k hk
      rw [w64 (by omega) (by omega), hn]
      exact h2 k hk
    have hin := in_loop hV s (by omega) room (pre.length : Int) p K2 h2' K1 h1 8
    refine ⟨K1 + K2 + 200, fun k hk => ?_⟩
    obtain ⟨k, rfl⟩ : ∃ m, k = m + 1 := ⟨k - 1, by omega⟩
    have e1 := h1 k (by omega)
    have hres : impl_IsRestartable.f k s.f0 s.f1.f0 s.f1.f1 s.f1.f2 = some (((V s).length : Int) == 0) := by
      have hk2 : tkk s.f0 s.f1.f0 s.f1.f1 s.f1.f2 = true := ht
      unfold impl_IsRestartable.f
      rw [itok _ _ _ _ (by omega) _ (by omega), e1]
      simp only [Option.bind_some]
      rw [if_pos hk2]
    have hv := hr8 s (List.mem_cons_self ..)
    simp only [laws_FnLogs.l0]
    rw [if_pos (by omega), if_pos (by omega), hr, e1]
    simp only [Option.bind_some]
    rw [imay s.f0 (by omega) k (by omega)]
    simp only [Option.bind_some]
    rw [if_neg (by omega), hres]
    simp only [Option.bind_some, bne_self_eq_false, Bool.false_eq_true, if_false]
    exact hin k 0 (by omega) (by omega) (by omega)
theorem FnLogs : laws_FnLogs.Pure := by
  intro l _ hl _
  obtain ⟨p, ep, hp, hs, ht⟩ := drawProg l (by omega)
  obtain ⟨V, hV⟩ := saves
  obtain ⟨r, K1, r1, r2, r3, h1⟩ := room_loop hV p [] p 0 rfl hs.1 hs.2 (by omega) (by omega)
  obtain ⟨K2, h2⟩ := out_loop hV r r1 r2 p [] p rfl hs.1 ht r3
  obtain ⟨Q, hQ⟩ : ∃ Q, Q = K1 + K2 + l.length + p.length + 4000000 := ⟨_, rfl⟩
  refine ⟨Q, ?_⟩
  unfold laws_FnLogs.f laws_big.f
  simp only [Option.bind_some]
  by_cases c : (l.length : Int) > 1048576
  · rw [if_pos (decide_eq_true c)]
  · rw [if_neg (by simp; omega), ep Q (by omega)]
    simp only [Option.bind_some]
    have hroom : impl_LogRoom.f Q p = some r := by
      unfold impl_LogRoom.f
      rw [iprog p hs Q (by omega), hp]
      simp only [Option.bind_some, if_true]
      exact h1 Q (by omega)
    rw [hroom]
    simp only [Option.bind_some]
    exact h2 Q (by omega)

end Go.Proofs.Ytlhcofkandeepaa.Pure
