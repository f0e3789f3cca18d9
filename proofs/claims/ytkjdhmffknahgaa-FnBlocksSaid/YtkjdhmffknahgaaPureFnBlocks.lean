/- A drawn block is valid, its first place lies at depth 0, and each opening has an end behind it, one level deeper, at every draw; no condition. -/
import Derived.Test.YtkjdhmffknahgaaPFnBlocksx6
namespace Go.Proofs.Ytkjdhmffknahgaa.Pure
open Go.RowKit Go.Proofs.Ytkjdhmffknahgaa.PFnBlocks Go.Proofs.YtkjdhmffknahgaaW.PrintWords Go.Proofs.YtkjdhmffknahgaaW.PrintLast
set_option linter.unusedVariables false
set_option linter.unusedSimpArgs false

theorem w64 {n : Int} (h1 : -9223372036854775808 ≤ n) (h2 : n ≤ 9223372036854775807) : wrap64 n = n := by unfold wrap64; omega
theorem w64_in (n : Int) : -9223372036854775808 ≤ wrap64 n ∧ wrap64 n ≤ 9223372036854775807 := by unfold wrap64; omega
theorem wf64 {n : Int} (h : (Lit.int .i64 n).wf = true) : -9223372036854775808 ≤ n ∧ n ≤ 9223372036854775807 := by
  simp only [Lit.wf, IntKind.min, IntKind.max, IntKind.signed, IntKind.bits, Bool.and_eq_true, decide_eq_true_eq, if_true] at h
  omega
theorem wfu8 {n : Int} (h : (Lit.int .u8 n).wf = true) : 0 ≤ n ∧ n ≤ 255 := by
  simp [Lit.wf, IntKind.min, IntKind.max, IntKind.signed, IntKind.bits] at h
  omega
theorem and_in (x : Int) (m : Nat) (hm : m < 9223372036854775808) : 0 ≤ Go.bits .and .i64 x (m : Int) ∧ Go.bits .and .i64 x (m : Int) ≤ m := by
  have h1 : (BitVec.ofInt 64 x &&& BitVec.ofInt 64 (m : Int)).toNat ≤ m := by
    rw [BitVec.toNat_and]
    refine Nat.le_trans Nat.and_le_right ?_
    rw [BitVec.ofInt_natCast, BitVec.toNat_ofNat]
    exact Nat.mod_le _ _
  have h2 : Go.bits .and .i64 x (m : Int) = IntKind.i64.wrap (((BitVec.ofInt 64 x &&& BitVec.ofInt 64 (m : Int)).toNat : Nat) : Int) := rfl
  rw [h2, Go.IntKind.wrap_i64]
  omega
theorem and255 (x : Int) : 0 ≤ Go.bits .and .i64 x 255 ∧ Go.bits .and .i64 x 255 ≤ 255 := and_in x 255 (by decide)
theorem tmod_in (x n : Int) (h0 : 0 ≤ x) (h : 1 ≤ n) : 0 ≤ Int.tmod x n ∧ Int.tmod x n < n := ⟨Int.tmod_nonneg _ h0, Int.tmod_lt_of_pos _ (by omega)⟩
theorem within_eq (a b c : Int) : impl_within.f a b c = some (decide (b ≤ a ∧ a ≤ c)) := by
  unfold impl_within.f
  by_cases h : a ≥ b
  · rw [if_pos h]; simp; omega
  · rw [if_neg h]; simp; omega
/-- The place of a cursor lies in its bytes. -/
structure OkC (l : List Int) (i : Int) : Prop where
  lo : 0 ≤ i
  hi : i ≤ l.length
  sz : (l.length : Int) ≤ 140737488351232
theorem byte_tells {l : List Int} {i : Int} (h : Int) (ok : OkC l i) : ∃ x i' h', spec_l01Byte.f l i h = some (x, i', h') ∧ OkC l i' ∧ 0 ≤ x ∧ x ≤ 255 := by
  obtain ⟨lo, hi, sz⟩ := ok
  unfold spec_l01Byte.f
  by_cases h1 : i < (l.length : Int)
  · rw [if_pos h1, if_pos lo]
    refine ⟨_, _, _, rfl, ?_, and255 _⟩
    rw [w64 (by omega) (by omega)]
    exact ⟨by omega, by omega, sz⟩
  · rw [if_neg h1]
    exact ⟨_, _, _, rfl, ⟨lo, hi, sz⟩, and255 _⟩
theorem below_tells {l : List Int} {i : Int} (h n : Int) (ok : OkC l i) (hn : 1 ≤ n) : ∃ x i' h', spec_l01Below.f l i h n = some (x, i', h') ∧ OkC l i' ∧ 0 ≤ x ∧ x < n := by
  unfold spec_l01Below.f
  rw [if_neg (by omega)]
  by_cases h1 : n ≤ 256
  · rw [if_pos h1]
    obtain ⟨x, i1, g1, e1, ok1, x0, x1⟩ := byte_tells h ok
    rw [e1]
    simp only [Option.bind_some]
    rw [if_neg (by omega)]
    exact ⟨_, _, _, rfl, ok1, tmod_in _ _ x0 hn⟩
  · rw [if_neg h1]
    obtain ⟨x, i1, g1, e1, ok1, x0, x1⟩ := byte_tells h ok
    obtain ⟨y, i2, g2, e2, ok2, y0, y1⟩ := byte_tells g1 ok1
    obtain ⟨z, i3, g3, e3, ok3, z0, z1⟩ := byte_tells g2 ok2
    obtain ⟨v, i4, g4, e4, ok4, v0, v1⟩ := byte_tells g3 ok3
    rw [e1]; simp only [Option.bind_some]
    rw [e2]; simp only [Option.bind_some]
    rw [e3]; simp only [Option.bind_some]
    rw [e4]; simp only [Option.bind_some]
    rw [if_neg (by omega)]
    refine ⟨_, _, _, rfl, ok4, tmod_in _ _ ?_ hn⟩
    rw [w64 (n := x * 16777216) (by omega) (by omega), w64 (n := y * 65536) (by omega) (by omega), w64 (n := z * 256) (by omega) (by omega)]
    rw [w64 (n := x * 16777216 + y * 65536) (by omega) (by omega), w64 (n := x * 16777216 + y * 65536 + z * 256) (by omega) (by omega)]
    rw [w64 (by omega) (by omega)]
    omega
theorem once_tells {l : List Int} {i : Int} (h n : Int) (ok : OkC l i) (hn : 1 ≤ n) : ∃ x i' h', spec_l01Once.f l i h n = some (x, i', h') ∧ OkC l i' := by
  obtain ⟨x, i1, g1, e1, ok1, _⟩ := below_tells h n ok hn
  unfold spec_l01Once.f
  rw [e1]
  exact ⟨_, _, _, rfl, ok1⟩
theorem rd_mem (xs : List Int) (i : Int) (h0 : 0 ≤ i) (h1 : i < (xs.length : Int)) : rd xs i ∈ xs := by
  have h : i.toNat < xs.length := by omega
  unfold Go.Proofs.YtkjdhmffknahgaaW.PrintWords.rd
  rw [List.getD_eq_getElem?_getD, List.getElem?_eq_getElem h]
  exact List.getElem_mem h
theorem pick_tells {l : List Int} {i : Int} (h : Int) (xs : List Int) (ok : OkC l i) (hn : 1 ≤ xs.length) : ∃ x i' h', spec_l01PickInt.f l i h xs = some (x, i', h') ∧ OkC l i' ∧ x ∈ xs := by
  obtain ⟨x, i1, g1, e1, ok1, x0, x1⟩ := below_tells h (xs.length : Int) ok (by omega)
  unfold spec_l01PickInt.f
  rw [e1]
  simp only [Option.bind_some]
  rw [if_pos x0, if_pos x1]
  exact ⟨_, _, _, rfl, ok1, rd_mem xs x x0 x1⟩
theorem new_loop (l : List Int) (sz : (l.length : Int) ≤ 140737488351232) (d : Nat) : ∀ (k : Nat) (h i : Int), 0 ≤ i → i ≤ l.length → (l.length : Int) - i = d → d < k → ∃ g, spec_l01New.l0 k l h i = some (l, 0, g) := by
  induction d with
  | zero =>
    intro k h i h0 h1 hd hk
    obtain ⟨k, rfl⟩ : ∃ m, k = m + 1 := ⟨k - 1, by omega⟩
    exact ⟨h, by simp only [spec_l01New.l0]; rw [if_neg (by omega)]⟩
  | succ d ih =>
    intro k h i h0 h1 hd hk
    obtain ⟨k, rfl⟩ : ∃ m, k = m + 1 := ⟨k - 1, by omega⟩
    simp only [spec_l01New.l0]
    rw [if_pos (by omega)]
    by_cases c : i < 4000
    · rw [if_pos c, if_pos h0, w64 (n := i + 1) (by omega) (by omega)]
      exact ih k _ (i + 1) (by omega) (by omega) (by omega) (by omega)
    · rw [if_neg c]; exact ⟨h, rfl⟩
theorem new_tells (l : List Int) (sz : (l.length : Int) ≤ 140737488351232) : ∃ g, ∀ k, l.length < k → spec_l01New.f k l = some (l, 0, g) := by
  obtain ⟨g, e⟩ := new_loop l sz l.length (l.length + 1) (wrap64 (98347 + (l.length : Int))) 0 (by omega) (by omega) (by omega) (by omega)
  exact ⟨g, fun k hk => at_rounds (fun k => spec_l01New.mono l k) (by omega : l.length + 1 ≤ k) e⟩
theorem ok_start {l : List Int} (sz : (l.length : Int) ≤ 140737488351232) : OkC l 0 := ⟨by omega, by omega, sz⟩
/-- A valid expression. -/
def eok (o a b : Int) : Bool := decide (1 ≤ o ∧ o ≤ 7) && (decide (-8 ≤ a ∧ a ≤ 999) && decide (-8 ≤ b ∧ b ≤ 999))
theorem iexpr (o a b : Int) : impl_ExprOk.f o a b = some (eok o a b) := by
  unfold impl_ExprOk.f impl_OperandOk.f eok
  simp only [within_eq, Option.bind_some]
  cases decide (1 ≤ o ∧ o ≤ 7) <;> cases decide (-8 ≤ a ∧ a ≤ 999) <;> simp
theorem eok_in {o a b : Int} (h : eok o a b = true) : (1 ≤ o ∧ o ≤ 7) ∧ (-8 ≤ a ∧ a ≤ 999) ∧ (-8 ≤ b ∧ b ≤ 999) := by
  unfold eok at h
  simp only [Bool.and_eq_true, decide_eq_true_eq] at h
  exact h
/-- A valid statement. -/
def zok (o a b : Int) : Bool := decide (o = 0) && (decide (a = 0) && decide (b = 0))
def sok (c v n o a b : Int) : Bool :=
  if c = 1 then decide (0 ≤ v ∧ v ≤ 7) && (decide (n = 0) && eok o a b)
  else if c = 2 then decide (0 ≤ v ∧ v ≤ 7) && (decide (0 ≤ n ∧ n ≤ 3) && zok o a b)
  else if c = 3 then decide (v = 0) && (decide (n = 0) && eok o a b)
  else if c = 4 then decide (v = 0) && (decide (n = 0) && eok o a b)
  else if c = 5 then decide (v = 0) && (decide (1 ≤ n ∧ n ≤ 5) && zok o a b)
  else if c = 6 then decide (v = 0) && (decide (n = 0) && zok o a b)
  else false
theorem hasVar_eq (c : Int) : impl_hasVar.f c = some (decide (c = 1 ∨ c = 2)) := by
  unfold impl_hasVar.f
  by_cases h : c = 1
  · rw [if_pos h]; simp [h]
  · rw [if_neg h]; simp [h]; rfl
theorem hasExpr_eq (c : Int) : impl_hasExpr.f c = some (decide (c = 1 ∨ c = 3 ∨ c = 4)) := by
  unfold impl_hasExpr.f
  by_cases h : c = 1
  · rw [if_pos h]; simp [h]
  · rw [if_neg h]
    by_cases h2 : c = 3
    · rw [if_pos h2]; simp [h2]
    · rw [if_neg h2]; simp [h, h2]; rfl
theorem isVar_eq (v : Int) : impl_isVar.f v = some (decide (0 ≤ v ∧ v ≤ 7)) := by
  unfold impl_isVar.f; rw [within_eq]; rfl
theorem isSensor_eq (v : Int) : impl_isSensor.f v = some (decide (0 ≤ v ∧ v ≤ 3)) := by
  unfold impl_isSensor.f; rw [within_eq]; rfl
theorem istmt (c v n o a b : Int) (k : Nat) (hk : 2 ≤ k) : impl_StmtOk.f k c v n o a b = some (sok c v n o a b) := by
  obtain ⟨k, rfl⟩ : ∃ m, k = m + 2 := ⟨k - 2, by omega⟩
  unfold impl_StmtOk.f sok zok
  simp only [within_eq, hasVar_eq, isVar_eq, hasExpr_eq, isSensor_eq, iexpr, Option.bind_some, impl_StmtOk.j0, impl_StmtOk.j1]
  by_cases h1 : c = 1
  · subst h1
    cases decide (0 ≤ v ∧ v ≤ 7) <;> cases eok o a b <;> by_cases hn : n = 0 <;> simp [hn]
  · by_cases h2 : c = 2
    · subst h2
      cases decide (0 ≤ v ∧ v ≤ 7) <;> cases decide (0 ≤ n ∧ n ≤ 3) <;> by_cases ho : o = 0 <;> by_cases ha : a = 0 <;> by_cases hb : b = 0 <;> simp [ho, ha, hb]
    · by_cases h3 : c = 3
      · subst h3
        cases eok o a b <;> by_cases hn : n = 0 <;> by_cases hv : v = 0 <;> simp [hn, hv]
      · by_cases h4 : c = 4
        · subst h4
          cases eok o a b <;> by_cases hn : n = 0 <;> by_cases hv : v = 0 <;> simp [hn, hv]
        · by_cases h5 : c = 5
          · subst h5
            cases decide (1 ≤ n ∧ n ≤ 5) <;> by_cases hv : v = 0 <;> by_cases ho : o = 0 <;> by_cases ha : a = 0 <;> by_cases hb : b = 0 <;> simp [hv, ho, ha, hb]
          · by_cases h6 : c = 6
            · subst h6
              by_cases hn : n = 0 <;> by_cases hv : v = 0 <;> by_cases ho : o = 0 <;> by_cases ha : a = 0 <;> by_cases hb : b = 0 <;> simp [hn, hv, ho, ha, hb]
            · have hw : ¬ (1 ≤ c ∧ c ≤ 6) := by omega
              simp [h1, h2, h3, h4, h5, h6, hw]
theorem rd_app (pre : List S31) (a : S31) (t : List S31) : rd_T31 (pre ++ a :: t) (pre.length : Int) = a := by
  unfold rd_T31
  simp [List.getD]
def okS (s : S31) : Bool := sok s.f0 s.f1 s.f2 s.f3.f0 s.f3.f1 s.f3.f2
def opn (s : S31) : Bool := decide (s.f0 = 4 ∨ s.f0 = 5)
def del (s : S31) : Int := if s.f0 = 4 ∨ s.f0 = 5 then 1 else if s.f0 = 6 then -1 else 0
theorem del_in (s : S31) : -1 ≤ del s ∧ del s ≤ 1 := by unfold del; split <;> (try split) <;> omega
def scan : List S31 → Int → Option Int
  | [], d => some d
  | s :: t, d => if okS s = true then (if 0 ≤ d + del s ∧ d + del s ≤ 3 then scan t (d + del s) else none) else none
def fin (o : Option Int) (n : Nat) : Bool := decide (o = some 0) && decide (n ≤ 24)
/-- Whether the statements are a valid block. -/
def blk (l : List S31) : Bool := fin (scan l 0) l.length
theorem opening_eq (c : Int) : impl_isOpening.f c = some (decide (c = 4 ∨ c = 5)) := by
  unfold impl_isOpening.f
  by_cases h : c = 4
  · simp [h]
  · rw [if_neg h]; congr 1; rw [Bool.eq_iff_iff]; simp [h]
theorem iscan (suf : List S31) : ∀ (k : Nat) (pre x : List S31) (d : Int), x = pre ++ suf → x.length ≤ 140737488351232 → 2 * suf.length + 4 ≤ k → 0 ≤ d → d ≤ 3 →
    impl_BlockOk.l0 k x d x (x.length : Int) (pre.length : Int) = some (fin (scan suf d) x.length) := by
  induction suf with
  | nil =>
    intro k pre x d hx hz hk d0 d1
    obtain ⟨k, rfl⟩ : ∃ m, k = m + 1 := ⟨k - 1, by omega⟩
    have hl : x.length = pre.length := by simp [hx]
    unfold impl_BlockOk.l0
    rw [if_neg (by omega)]
    unfold scan fin
    by_cases c : d = 0
    · rw [if_pos c, c]; congr 1; simp; omega
    · rw [if_neg c]; simp [c]
  | cons a t ih =>
    intro k pre x d hx hz hk d0 d1
    simp only [List.length_cons] at hk
    obtain ⟨k, rfl⟩ : ∃ m, k = m + 2 := ⟨k - 2, by omega⟩
    have hl : x.length = pre.length + (t.length + 1) := by simp [hx]
    have hr : rd_T31 x (pre.length : Int) = a := by rw [hx]; exact rd_app pre a t
    have hn : ((pre.length : Int) + 1) = (((pre ++ [a]).length : Nat) : Int) := by simp
    unfold impl_BlockOk.l0
    rw [if_pos (by omega), if_pos (by omega), if_pos (by omega)]
    simp only [hr]
    rw [istmt _ _ _ _ _ _ _ (by omega)]
    simp only [Option.bind_some]
    have hs : ∀ e, scan (a :: t) e = if okS a = true then (if 0 ≤ e + del a ∧ e + del a ≤ 3 then scan t (e + del a) else none) else none := fun e => rfl
    rw [hs]
    by_cases ok : okS a = true
    · rw [if_pos ok]
      unfold okS at ok
      rw [if_pos ok, opening_eq]
      simp only [Option.bind_some, decide_eq_true_eq]
      have step : ∀ e : Int, 0 ≤ e → e ≤ 3 → impl_BlockOk.l0 k x e x (x.length : Int) (wrap64 ((pre.length : Int) + 1)) = some (fin (scan t e) x.length) := by
        intro e e0 e1
        rw [w64 (by omega) (by omega), hn]
        exact ih k (pre ++ [a]) x e (by simp [hx]) hz (by omega) e0 e1
      by_cases o : a.f0 = 4 ∨ a.f0 = 5
      · have hd : del a = 1 := by unfold del; rw [if_pos o]
        rw [if_pos o, hd, w64 (n := d + 1) (by omega) (by omega)]
        unfold impl_BlockOk.j1
        rw [if_neg (by omega), if_neg (by omega)]
        by_cases c : d + 1 > 3
        · rw [if_pos c, if_neg (by omega)]; simp [fin]
        · rw [if_neg c, if_pos (by omega)]
          exact step _ (by omega) (by omega)
      · rw [if_neg o]
        unfold impl_BlockOk.j1
        by_cases c6 : a.f0 = 6
        · have hd : del a = -1 := by unfold del; rw [if_neg o, if_pos c6]
          rw [if_pos c6, hd, w64 (n := d - 1) (by omega) (by omega)]
          by_cases c : d - 1 < 0
          · rw [if_pos c, if_neg (by omega)]; simp [fin]
          · rw [if_neg c, if_neg (by omega), if_pos (by omega)]
            exact step _ (by omega) (by omega)
        · have hd : del a = 0 := by unfold del; rw [if_neg o, if_neg c6]
          rw [if_neg c6, hd, if_neg (by omega), if_neg (by omega), if_pos (by omega), show d + 0 = d by omega]
          exact step _ (by omega) (by omega)
    · rw [if_neg ok]
      unfold okS at ok
      rw [if_neg ok]
      simp [fin]
theorem iblock (l : List S31) (hz : l.length ≤ 140737488351232) (k : Nat) (hk : 2 * l.length + 4 ≤ k) : impl_BlockOk.f k l = some (blk l) :=
  iscan l k [] l 0 rfl hz hk (by omega) (by omega)
/-- Where the statement that is opened ends: depth d at place p. -/
def fend : List S31 → Int → Int → Int
  | [], _, _ => -1
  | a :: t, d, p => if a.f0 = 6 ∧ d = 1 then p else fend t (d + del a) (p + 1)
theorem at_split (x : List S31) (i : Int) (h0 : 0 ≤ i) (h1 : i < (x.length : Int)) : ∃ pre a t, x = pre ++ a :: t ∧ (pre.length : Int) = i ∧ rd_T31 x i = a := by
  have h : i.toNat < x.length := by omega
  refine ⟨x.take i.toNat, x[i.toNat], x.drop (i.toNat + 1), ?_, ?_, ?_⟩
  · rw [List.getElem_cons_drop, List.take_append_drop]
  · rw [List.length_take]; omega
  · unfold rd_T31
    rw [List.getD_eq_getElem?_getD, List.getElem?_eq_getElem h]
    rfl
theorem iend (suf : List S31) : ∀ (k : Nat) (pre x : List S31) (d : Int), x = pre ++ suf → x.length ≤ 1048576 → 2 * suf.length + 1 ≤ k → (1 ≤ d ∨ 0 ≤ d ∧ ∃ a t, suf = a :: t ∧ (a.f0 = 4 ∨ a.f0 = 5)) → d ≤ pre.length →
    impl_endOf.l0 k x d (pre.length : Int) = some (fend suf d (pre.length : Int)) := by
  induction suf with
  | nil =>
    intro k pre x d hx hz hk d0 d1
    obtain ⟨k, rfl⟩ : ∃ m, k = m + 1 := ⟨k - 1, by omega⟩
    have hl : x.length = pre.length := by simp [hx]
    unfold impl_endOf.l0
    rw [if_neg (by omega)]
    rfl
  | cons a t ih =>
    intro k pre x d hx hz hk d0 d1
    simp only [List.length_cons] at hk
    obtain ⟨k, rfl⟩ : ∃ m, k = m + 2 := ⟨k - 2, by omega⟩
    have hl : x.length = pre.length + (t.length + 1) := by simp [hx]
    have hr : rd_T31 x (pre.length : Int) = a := by rw [hx]; exact rd_app pre a t
    have hn : ((pre.length : Int) + 1) = (((pre ++ [a]).length : Nat) : Int) := by simp
    have hf : fend (a :: t) d (pre.length : Int) = if a.f0 = 6 ∧ d = 1 then (pre.length : Int) else fend t (d + del a) ((pre.length : Int) + 1) := rfl
    have step : ∀ e : Int, 1 ≤ e → e ≤ (pre.length : Int) + 1 → impl_endOf.l0 k x e (wrap64 ((pre.length : Int) + 1)) = some (fend t e ((pre.length : Int) + 1)) := by
      intro e e0 e1
      rw [w64 (by omega) (by omega), hn]
      exact ih k (pre ++ [a]) x e (by simp [hx]) hz (by omega) (Or.inl e0) (by omega)
    unfold impl_endOf.l0
    rw [if_pos (by omega), if_pos (by omega)]
    simp only [hr]
    rw [opening_eq, hf]
    simp only [Option.bind_some, decide_eq_true_eq]
    have j : ∀ e : Int, impl_endOf.j1 (k + 1) x e (pre.length : Int) = if a.f0 = 6 then (if wrap64 (e - 1) = 0 then some (pre.length : Int) else impl_endOf.l0 k x (wrap64 (e - 1)) (wrap64 ((pre.length : Int) + 1))) else if e = 0 then some (pre.length : Int) else impl_endOf.l0 k x e (wrap64 ((pre.length : Int) + 1)) := by
      intro e
      unfold impl_endOf.j1
      rw [if_pos (by omega), if_pos (by omega)]
      simp only [hr]
    by_cases o : a.f0 = 4 ∨ a.f0 = 5
    · have hd : del a = 1 := by unfold del; rw [if_pos o]
      have d2 : 0 ≤ d := by omega
      rw [if_pos o, hd, w64 (n := d + 1) (by omega) (by omega), j, if_neg (by omega), if_neg (by omega), if_neg (by omega)]
      exact step _ (by omega) (by omega)
    · have d2 : 1 ≤ d := by
        rcases d0 with h | ⟨h, a', t', e1, e2⟩
        · exact h
        · cases e1; exact absurd e2 o
      rw [if_neg o, j]
      by_cases c6 : a.f0 = 6
      · have hd : del a = -1 := by unfold del; rw [if_neg o, if_pos c6]
        rw [if_pos c6, hd, w64 (n := d - 1) (by omega) (by omega)]
        by_cases c : d = 1
        · rw [if_pos (by omega), if_pos ⟨c6, c⟩]
        · rw [if_neg (by omega), if_neg (by omega), show d + -1 = d - 1 by omega]
          exact step _ (by omega) (by omega)
      · have hd : del a = 0 := by unfold del; rw [if_neg o, if_neg c6]
        rw [if_neg c6, hd, if_neg (by omega), if_neg (by omega), show d + 0 = d by omega]
        exact step _ (by omega) (by omega)
def tot : List S31 → Int
  | [] => 0
  | a :: s => del a + tot s
def mnp : List S31 → Int
  | [] => 0
  | a :: s => if del a + mnp s < 0 then del a + mnp s else 0
theorem mnp_le (s : List S31) : mnp s ≤ 0 ∧ mnp s ≤ tot s := by
  induction s with
  | nil => exact ⟨Int.le_refl _, Int.le_refl _⟩
  | cons a s ih => unfold mnp tot; split <;> omega
theorem tot_in (s : List S31) : -(s.length : Int) ≤ tot s ∧ tot s ≤ s.length := by
  induction s with
  | nil => exact ⟨by simp [tot], by simp [tot]⟩
  | cons a s ih => have := del_in a; unfold tot; simp only [List.length_cons]; omega
theorem tot_app (s r : List S31) : tot (s ++ r) = tot s + tot r := by
  induction s with
  | nil => simp [tot]
  | cons a s ih =>
    have h : tot (a :: s ++ r) = del a + tot (s ++ r) := rfl
    have h2 : tot (a :: s) = del a + tot s := rfl
    omega
theorem fend_app (s : List S31) : ∀ (r : List S31) (d p : Int), 1 ≤ d →
    (mnp s + d ≤ 0 → p ≤ fend (s ++ r) d p ∧ fend (s ++ r) d p < p + s.length) ∧ (1 ≤ mnp s + d → fend (s ++ r) d p = fend r (d + tot s) (p + s.length) ∧ 1 ≤ d + tot s) := by
  induction s with
  | nil =>
    intro r d p h
    refine ⟨fun c => ?_, fun c => ?_⟩
    · unfold mnp at c; omega
    · have e : tot ([] : List S31) = 0 := rfl
      rw [e]
      simp; exact h
  | cons a s ih =>
    intro r d p h
    have hm := mnp_le s
    have hf : fend (a :: s ++ r) d p = if a.f0 = 6 ∧ d = 1 then p else fend (s ++ r) (d + del a) (p + 1) := rfl
    have h1 : mnp (a :: s) = if del a + mnp s < 0 then del a + mnp s else 0 := rfl
    have h2 : tot (a :: s) = del a + tot s := rfl
    have hd : del a = if a.f0 = 4 ∨ a.f0 = 5 then 1 else if a.f0 = 6 then -1 else 0 := rfl
    have hdi := del_in a
    rw [hf, h1, h2]
    simp only [List.length_cons]
    by_cases c : a.f0 = 6 ∧ d = 1
    · rw [if_pos c]
      rw [if_neg (by omega), if_pos c.1] at hd
      rw [if_pos (by omega)]
      exact ⟨fun _ => ⟨by omega, by omega⟩, fun _ => by omega⟩
    · rw [if_neg c]
      have hde : 1 ≤ d + del a := by
        by_cases c6 : a.f0 = 6
        · omega
        · rw [hd]; split
          · omega
          · omega
      obtain ⟨i1, i2⟩ := ih r (d + del a) (p + 1) hde
      refine ⟨fun k => ?_, fun k => ?_⟩
      · have := i1 (by revert k; split <;> omega)
        push_cast
        omega
      · have := i2 (by revert k; split <;> omega)
        rw [this.1, show d + del a + tot s = d + (del a + tot s) by omega, show p + 1 + (s.length : Int) = p + ((s.length + 1 : Nat) : Int) by push_cast; omega]
        exact ⟨rfl, by omega⟩
theorem scan_app (s : List S31) : ∀ (r : List S31) (d e : Int), 0 ≤ d → d ≤ 3 → scan (s ++ r) d = some e → 0 ≤ d + mnp s ∧ d + tot s ≤ 3 ∧ scan r (d + tot s) = some e ∧ (∀ a ∈ s, okS a = true) := by
  induction s with
  | nil =>
    intro r d e h0 h1 h
    have e1 : tot ([] : List S31) = 0 := rfl
    have e2 : mnp ([] : List S31) = 0 := rfl
    rw [e1, e2, show d + 0 = d by omega]
    exact ⟨h0, h1, h, fun a ha => by simp at ha⟩
  | cons a s ih =>
    intro r d e h0 h1 h
    have hs : scan (a :: s ++ r) d = if okS a = true then (if 0 ≤ d + del a ∧ d + del a ≤ 3 then scan (s ++ r) (d + del a) else none) else none := rfl
    rw [hs] at h
    by_cases ok : okS a = true
    · rw [if_pos ok] at h
      by_cases c : 0 ≤ d + del a ∧ d + del a ≤ 3
      · rw [if_pos c] at h
        obtain ⟨i1, i2, i3, i4⟩ := ih r _ e c.1 c.2 h
        have h1 : mnp (a :: s) = if del a + mnp s < 0 then del a + mnp s else 0 := rfl
        have h2 : tot (a :: s) = del a + tot s := rfl
        rw [h1, h2]
        refine ⟨by split <;> omega, by omega, by rw [show d + (del a + tot s) = d + del a + tot s by omega]; exact i3, ?_⟩
        intro b hb
        rcases List.mem_cons.mp hb with rfl | hb
        · exact ok
        · exact i4 b hb
      · rw [if_neg c] at h; exact absurd h (by simp)
    · rw [if_neg ok] at h; exact absurd h (by simp)
theorem blk_scan {x : List S31} (h : blk x = true) : scan x 0 = some 0 ∧ x.length ≤ 24 := by
  unfold blk fin at h
  simpa using h
theorem blk_tot {x : List S31} (h : blk x = true) : tot x = 0 := by
  obtain ⟨h1, _⟩ := blk_scan h
  have h2 := scan_app x [] 0 0 (by omega) (by omega) (by simpa using h1)
  have h3 := h2.2.2.1
  simp only [scan, Option.some.injEq] at h3
  omega
theorem idepth (suf : List S31) : ∀ (k : Nat) (pre y : List S31) (c : Int), y = pre ++ suf → y.length ≤ 1048576 → suf.length + 1 ≤ k → -(pre.length : Int) ≤ c → c ≤ pre.length →
    impl_DepthOf.l0 k c y (y.length : Int) (pre.length : Int) = some (c + tot suf) := by
  induction suf with
  | nil =>
    intro k pre x c hx hz hk d0 d1
    obtain ⟨k, rfl⟩ : ∃ m, k = m + 1 := ⟨k - 1, by omega⟩
    have hl : x.length = pre.length := by simp [hx]
    unfold impl_DepthOf.l0
    rw [if_neg (by omega)]
    unfold tot
    congr 1; omega
  | cons a t ih =>
    intro k pre x c hx hz hk d0 d1
    simp only [List.length_cons] at hk
    obtain ⟨k, rfl⟩ : ∃ m, k = m + 1 := ⟨k - 1, by omega⟩
    have hl : x.length = pre.length + (t.length + 1) := by simp [hx]
    have hr : rd_T31 x (pre.length : Int) = a := by rw [hx]; exact rd_app pre a t
    have hn : ((pre.length : Int) + 1) = (((pre ++ [a]).length : Nat) : Int) := by simp
    have step : ∀ e : Int, -(pre.length : Int) - 1 ≤ e → e ≤ (pre.length : Int) + 1 → impl_DepthOf.l0 k e x (x.length : Int) (wrap64 ((pre.length : Int) + 1)) = some (e + tot t) := by
      intro e e0 e1
      rw [w64 (by omega) (by omega), hn]
      exact ih k (pre ++ [a]) x e (by simp [hx]) hz (by omega) (by omega) (by omega)
    have ht : tot (a :: t) = del a + tot t := rfl
    unfold impl_DepthOf.l0
    rw [if_pos (by omega), if_pos (by omega), if_pos (by omega)]
    simp only [hr]
    rw [opening_eq, ht]
    simp only [Option.bind_some, decide_eq_true_eq]
    by_cases o : a.f0 = 4 ∨ a.f0 = 5
    · have hd : del a = 1 := by unfold del; rw [if_pos o]
      rw [if_pos o, hd, w64 (n := c + 1) (by omega) (by omega), if_neg (by omega), step _ (by omega) (by omega)]
      congr 1; omega
    · rw [if_neg o]
      by_cases c6 : a.f0 = 6
      · have hd : del a = -1 := by unfold del; rw [if_neg o, if_pos c6]
        rw [if_pos c6, hd, w64 (n := c - 1) (by omega) (by omega), step _ (by omega) (by omega)]
        congr 1; omega
      · have hd : del a = 0 := by unfold del; rw [if_neg o, if_neg c6]
        rw [if_neg c6, hd, step _ (by omega) (by omega)]
        congr 1; omega
theorem operand_in {l : List Int} {i : Int} (h : Int) (ok : OkC l i) : ∃ x i' h', spec_l03Operand.f l i h = some (x, i', h') ∧ OkC l i' ∧ -8 ≤ x ∧ x ≤ 999 := by
  unfold spec_l03Operand.f
  obtain ⟨b, i1, g1, e1, ok1⟩ := once_tells h 2 ok (by omega)
  rw [e1]
  simp only [Option.bind_some]
  by_cases c : b = true
  · rw [if_pos c]
    obtain ⟨x, i2, g2, e2, ok2, x0, x1⟩ := below_tells g1 5 ok1 (by omega)
    rw [e2]
    simp only [Option.bind_some]
    rw [w64 (by omega) (by omega)]
    exact ⟨_, _, _, rfl, ok2, by omega, by omega⟩
  · rw [if_neg c]
    obtain ⟨x, i2, g2, e2, ok2, hx⟩ := pick_tells g1 [0, 1, 2, 3, 10, 999] ok1 (by decide)
    rw [e2]
    simp only [Option.bind_some]
    refine ⟨_, _, _, rfl, ok2, ?_⟩
    simp only [List.mem_cons, List.not_mem_nil, or_false] at hx
    omega
theorem expr_in {l : List Int} {i : Int} (h : Int) (ok : OkC l i) : ∃ o a b i' h', spec_l03Expr.f l i h = some (o, a, b, i', h') ∧ OkC l i' ∧ eok o a b = true := by
  unfold spec_l03Expr.f
  obtain ⟨x, i1, g1, e1, ok1, x0, x1⟩ := below_tells h 7 ok (by omega)
  obtain ⟨a, i2, g2, e2, ok2, a0, a1⟩ := operand_in g1 ok1
  obtain ⟨b, i3, g3, e3, ok3, b0, b1⟩ := operand_in g2 ok2
  rw [e1]
  simp only [Option.bind_some]
  rw [e2]
  simp only [Option.bind_some]
  rw [e3]
  simp only [Option.bind_some]
  rw [w64 (by omega) (by omega)]
  refine ⟨_, _, _, _, _, rfl, ok3, ?_⟩
  unfold eok
  simp
  omega
/-- A valid statement that neither opens nor closes. -/
def plain (c v n o a b : Int) : Prop := sok c v n o a b = true ∧ c ≠ 4 ∧ c ≠ 5 ∧ c ≠ 6
theorem stmt_in {l : List Int} {i : Int} (h : Int) (ok : OkC l i) (k : Nat) (hk : 1 ≤ k) : ∃ c v n o a b i' h', spec_l04Stmt.f k l i h = some (c, v, n, o, a, b, i', h') ∧ OkC l i' ∧ plain c v n o a b := by
  obtain ⟨k, rfl⟩ : ∃ m, k = m + 1 := ⟨k - 1, by omega⟩
  have hj : ∀ (x : Int) (f : Bool) (i1 g1 : Int), OkC l i1 → ∃ c v n o a b i' h', spec_l04Stmt.j0 (k + 1) x f l i1 g1 = some (c, v, n, o, a, b, i', h') ∧ OkC l i' ∧ plain c v n o a b := by
    intro x f i1 g1 ok1
    simp only [spec_l04Stmt.j0]
    by_cases cf : f = true
    · rw [if_pos cf]
      obtain ⟨v, i2, g2, e2, ok2, v0, v1⟩ := below_tells g1 5 ok1 (by omega)
      obtain ⟨n, i3, g3, e3, ok3, n0, n1⟩ := below_tells g2 4 ok2 (by omega)
      rw [e2]
      simp only [Option.bind_some]
      rw [e3]
      simp only [Option.bind_some]
      refine ⟨_, _, _, _, _, _, _, _, rfl, ok3, ?_, by omega, by omega, by omega⟩
      unfold sok zok
      simp
      omega
    · rw [if_neg cf]
      by_cases c2 : x = 2
      · rw [if_pos c2]
        obtain ⟨o, a, b, i2, g2, e2, ok2, he⟩ := expr_in g1 ok1
        rw [e2]
        simp only [Option.bind_some]
        refine ⟨_, _, _, _, _, _, _, _, rfl, ok2, ?_, by omega, by omega, by omega⟩
        unfold sok
        simp [he]
      · rw [if_neg c2]
        obtain ⟨v, i2, g2, e2, ok2, v0, v1⟩ := below_tells g1 5 ok1 (by omega)
        obtain ⟨o, a, b, i3, g3, e3, ok3, he⟩ := expr_in g2 ok2
        rw [e2]
        simp only [Option.bind_some]
        rw [e3]
        simp only [Option.bind_some]
        refine ⟨_, _, _, _, _, _, _, _, rfl, ok3, ?_, by omega, by omega, by omega⟩
        unfold sok
        simp [he]
        omega
  unfold spec_l04Stmt.f
  obtain ⟨x, i1, g1, e1, ok1, x0, x1⟩ := below_tells h 7 ok (by omega)
  rw [e1]
  simp only [Option.bind_some]
  by_cases c : x = 0
  · rw [if_pos c]; exact hj _ _ _ _ ok1
  · rw [if_neg c]; exact hj _ _ _ _ ok1
/-- Statements that may lie in any block, m levels of opening high. -/
def Good (b : List S31) (m : Int) : Prop := ∀ (r : List S31) (d : Int), 0 ≤ d → d + m ≤ 3 → scan (b ++ r) d = scan r d
theorem good_nil (m : Int) : Good [] m := fun r d _ _ => rfl
theorem good_app {b c : List S31} {m : Int} (hb : Good b m) (hc : Good c m) : Good (b ++ c) m := by
  intro r d h0 h1
  rw [List.append_assoc, hb _ d h0 h1, hc r d h0 h1]
theorem scan_cons (s : S31) (t : List S31) (d : Int) : scan (s :: t) d = if okS s = true then (if 0 ≤ d + del s ∧ d + del s ≤ 3 then scan t (d + del s) else none) else none := rfl
theorem good_plain {c v n o a b : Int} (h : plain c v n o a b) {m : Int} (hm : 0 ≤ m) : Good [(⟨c, v, n, ⟨o, a, b⟩⟩ : S31)] m := by
  intro r d h0 h1
  obtain ⟨h2, h3, h4, h5⟩ := h
  have hd : del (⟨c, v, n, ⟨o, a, b⟩⟩ : S31) = 0 := by unfold del; simp [h3, h4, h5]
  have ho : okS (⟨c, v, n, ⟨o, a, b⟩⟩ : S31) = true := h2
  show scan ((⟨c, v, n, ⟨o, a, b⟩⟩ : S31) :: r) d = scan r d
  rw [scan_cons, if_pos ho, hd, if_pos (by omega), show d + 0 = d by omega]
theorem good_wrap {c v n o a b : Int} (h : sok c v n o a b = true) (h4 : c = 4 ∨ c = 5) {q : List S31} {m : Int} (hm : 0 ≤ m) (hq : Good q m) : Good ((⟨c, v, n, ⟨o, a, b⟩⟩ : S31) :: (q ++ [(⟨6, 0, 0, ⟨0, 0, 0⟩⟩ : S31)])) (m + 1) := by
  intro r d h0 h1
  have hd : del (⟨c, v, n, ⟨o, a, b⟩⟩ : S31) = 1 := by unfold del; rw [if_pos h4]
  have ho : okS (⟨c, v, n, ⟨o, a, b⟩⟩ : S31) = true := h
  have hd2 : del (⟨6, 0, 0, ⟨0, 0, 0⟩⟩ : S31) = -1 := by decide
  have ho2 : okS (⟨6, 0, 0, ⟨0, 0, 0⟩⟩ : S31) = true := by decide
  show scan ((⟨c, v, n, ⟨o, a, b⟩⟩ : S31) :: ((q ++ [(⟨6, 0, 0, ⟨0, 0, 0⟩⟩ : S31)]) ++ r)) d = scan r d
  rw [scan_cons, if_pos ho, hd, if_pos (by omega), List.append_assoc, hq _ _ (by omega) (by omega)]
  show scan ((⟨6, 0, 0, ⟨0, 0, 0⟩⟩ : S31) :: r) (d + 1) = scan r d
  rw [scan_cons, if_pos ho2, hd2, if_pos (by omega), show d + 1 + -1 = d by omega]
/-- How long a block may be behind i draws, h levels below the innermost. -/
def cap (h : Nat) (i : Int) : Int := if h = 0 then i else if h = 1 then 4 * i else 15 + i
theorem block_in {l : List Int} (h : Nat) : h ≤ 2 → ∀ (k : Nat) (i g n : Int), OkC l i → 0 ≤ n → n ≤ (if h = 2 then 5 else 2) → 2 * n + 6 + 5 * h ≤ k → ∃ b i' g', spec_l05Block.f k l i g n (2 - (h : Int)) = some (b, i', g') ∧ OkC l i' ∧ Good b h ∧ (b.length : Int) ≤ cap h n := by
  induction h with
  | zero =>
    intro _ k i g n ok n0 n1 hk
    simp only [Nat.zero_ne_add_one, if_false] at n1
    have hl : ∀ (d : Nat) (k : Nat) (x : List S31) (j i g : Int), OkC l i → 0 ≤ j → n - j = d → 2 * (d : Int) + 5 ≤ k → Good x ((0 : Nat) : Int) → (x.length : Int) ≤ j → ∃ b i' g', spec_l05Block.l0 k n (2 - ((0 : Nat) : Int)) x j l i g = some (b, i', g') ∧ OkC l i' ∧ Good b ((0 : Nat) : Int) ∧ (b.length : Int) ≤ n := by
      intro d
      induction d with
      | zero =>
        intro k x j i g ok j0 hd hk hg hx
        obtain ⟨k, rfl⟩ : ∃ m, k = m + 1 := ⟨k - 1, by omega⟩
        simp only [spec_l05Block.l0]
        rw [if_neg (by omega)]
        exact ⟨_, _, _, rfl, ok, hg, by omega⟩
      | succ d ih =>
        intro k x j i g ok j0 hd hk hg hx
        obtain ⟨k, rfl⟩ : ∃ m, k = m + 2 := ⟨k - 2, by omega⟩
        obtain ⟨c, v, q, o, a, b, i1, g1, e1, ok1, hp⟩ := stmt_in g ok k (by omega)
        simp only [spec_l05Block.l0]
        rw [if_pos (by omega), if_neg (by omega)]
        simp only [spec_l05Block.j1, Bool.false_eq_true, if_false]
        rw [e1]
        simp only [Option.bind_some]
        rw [if_pos (by omega), w64 (n := j + 1) (by omega) (by omega)]
        exact ih k _ (j + 1) i1 g1 ok1 (by omega) (by omega) (by omega) (good_app hg (good_plain hp (by omega))) (by simp; omega)
    obtain ⟨k, rfl⟩ : ∃ m, k = m + 1 := ⟨k - 1, by omega⟩
    unfold spec_l05Block.f
    obtain ⟨b, i', g', e, ok', hg, hb⟩ := hl n.toNat k [] 0 i g ok (by omega) (by omega) (by omega) (good_nil _) (by simp)
    exact ⟨b, i', g', e, ok', hg, by unfold cap; rw [if_pos rfl]; exact hb⟩
  | succ h ihh =>
    intro hh k i g n ok n0 n1 hk
    have n5 : n ≤ 5 := by revert n1; split <;> omega
    have hl : ∀ (d : Nat) (k : Nat) (x : List S31) (j i g : Int), OkC l i → 0 ≤ j → n - j = d → 2 * (d : Int) + 5 + 5 * ((h : Int) + 1) ≤ k → Good x ((h + 1 : Nat) : Int) → (x.length : Int) ≤ cap (h + 1) j → ∃ b i' g', spec_l05Block.l0 k n (2 - ((h + 1 : Nat) : Int)) x j l i g = some (b, i', g') ∧ OkC l i' ∧ Good b ((h + 1 : Nat) : Int) ∧ (b.length : Int) ≤ cap (h + 1) n := by
      intro d
      induction d with
      | zero =>
        intro k x j i g ok j0 hd hk hg hx
        obtain ⟨k, rfl⟩ : ∃ m, k = m + 1 := ⟨k - 1, by omega⟩
        have e : j = n := by omega
        subst e
        simp only [spec_l05Block.l0]
        rw [if_neg (by omega)]
        exact ⟨_, _, _, rfl, ok, hg, hx⟩
      | succ d ih =>
        intro k x j i g ok j0 hd hk hg hx
        obtain ⟨k, rfl⟩ : ∃ m, k = m + 2 := ⟨k - 2, by omega⟩
        have xb : (x.length : Int) ≤ 100 := by revert hx; unfold cap; split <;> (try split) <;> omega
        have hplain : ∀ i g, OkC l i → ∃ b i' g', spec_l05Block.j1 (k + 1) n (2 - ((h + 1 : Nat) : Int)) x j false l i g = some (b, i', g') ∧ OkC l i' ∧ Good b ((h + 1 : Nat) : Int) ∧ (b.length : Int) ≤ cap (h + 1) n := by
          intro i g ok
          obtain ⟨c, v, q, o, a, b, i1, g1, e1, ok1, hp⟩ := stmt_in g ok k (by omega)
          simp only [spec_l05Block.j1, Bool.false_eq_true, if_false]
          rw [e1]
          simp only [Option.bind_some]
          rw [if_pos (by omega), w64 (n := j + 1) (by omega) (by omega)]
          refine ih k _ (j + 1) i1 g1 ok1 (by omega) (by omega) (by omega) (good_app hg (good_plain hp (by omega))) ?_
          revert hx
          unfold cap
          simp only [List.length_append, List.length_cons, List.length_nil]
          split <;> (try split) <;> omega
        simp only [spec_l05Block.l0]
        rw [if_pos (by omega), if_pos (by omega)]
        by_cases c6 : (x.length : Int) < 6
        · rw [if_pos c6]
          obtain ⟨f, i1, g1, e1, ok1⟩ := once_tells g 5 ok (by omega)
          rw [e1]
          simp only [Option.bind_some]
          by_cases cf : f = true
          · subst cf
            obtain ⟨t, i2, g2, e2, ok2, t0, t1⟩ := below_tells g1 3 ok1 (by omega)
            obtain ⟨f2, i3, g3, e3, ok3⟩ := once_tells g2 2 ok2 (by omega)
            -- the end of either way
            have tail : ∀ (s : S31) (i g : Int), OkC l i → (s.f0 = 4 ∨ s.f0 = 5) → okS s = true → ∀ m, 0 ≤ m → m < 2 → ∃ b2 i2 g2, spec_l05Block.f k l i g (wrap64 (1 + m)) (wrap64 (2 - ((h + 1 : Nat) : Int) + 1)) = some (b2, i2, g2) ∧ (b2.length : Int) ≤ 8 ∧
                (∃ b i' g', spec_l05Block.l0 k n (2 - ((h + 1 : Nat) : Int)) (((x ++ [s]) ++ b2) ++ [(⟨6, 0, 0, (⟨0, 0, 0⟩ : S29)⟩ : S31)]) (wrap64 (j + 1)) l i2 g2 = some (b, i', g') ∧ OkC l i' ∧ Good b ((h + 1 : Nat) : Int) ∧ (b.length : Int) ≤ cap (h + 1) n) := by
              intro s i g ok hs hs2 m m0 m1
              rw [w64 (n := 1 + m) (by omega) (by omega), w64 (n := 2 - ((h + 1 : Nat) : Int) + 1) (by omega) (by omega), w64 (n := j + 1) (by omega) (by omega), show 2 - ((h + 1 : Nat) : Int) + 1 = 2 - (h : Int) by omega]
              obtain ⟨b2, i2, g2, e, ok2, hg2, hb2⟩ := ihh (by omega) k i g (1 + m) ok (by omega) (by split <;> omega) (by omega)
              have hb8 : (b2.length : Int) ≤ (if h = 0 then 2 else 8) := by revert hb2; unfold cap; split <;> (try split) <;> omega
              refine ⟨b2, i2, g2, e, by revert hb8; split <;> omega, ?_⟩
              refine ih k _ (j + 1) i2 g2 ok2 (by omega) (by omega) (by omega) ?_ ?_
              · have hw := good_wrap (q := b2) (m := (h : Int)) (c := s.f0) (v := s.f1) (n := s.f2) (o := s.f3.f0) (a := s.f3.f1) (b := s.f3.f2) hs2 hs (by omega) hg2
                have := good_app hg (m := ((h + 1 : Nat) : Int)) hw
                simpa [List.append_assoc] using this
              · revert hx
                unfold cap
                simp only [List.length_append, List.length_cons, List.length_nil]
                revert hb8
                split
                · split <;> (try split) <;> omega
                · split <;> (try split) <;> omega
            simp only [spec_l05Block.j1, if_true]
            rw [e2]
            simp only [Option.bind_some]
            rw [e3]
            simp only [Option.bind_some]
            by_cases c2 : f2 = true
            · rw [if_pos c2]
              obtain ⟨o, a, b, i4, g4, e4, ok4, he⟩ := expr_in g3 ok3
              obtain ⟨m, i5, g5, e5, ok5, m0, m1⟩ := below_tells g4 2 ok4 (by omega)
              obtain ⟨b2, i6, g6, e6, hb8, b, i7, g7, e7, h7⟩ := tail (⟨4, 0, 0, ⟨o, a, b⟩⟩ : S31) i5 g5 ok5 (Or.inl rfl) (by unfold okS sok; simp [he]) m m0 m1
              rw [e4]
              simp only [Option.bind_some]
              rw [if_pos (by omega), e5]
              simp only [Option.bind_some]
              rw [e6]
              simp only [Option.bind_some]
              rw [if_pos (by simp; omega), if_pos (by simp; omega)]
              exact ⟨_, _, _, e7, h7⟩
            · rw [if_neg c2]
              obtain ⟨m, i5, g5, e5, ok5, m0, m1⟩ := below_tells g3 2 ok3 (by omega)
              obtain ⟨b2, i6, g6, e6, hb8, b, i7, g7, e7, h7⟩ := tail (⟨5, 0, wrap64 (1 + t), ⟨0, 0, 0⟩⟩ : S31) i5 g5 ok5 (Or.inr rfl) (by rw [w64 (by omega) (by omega)]; unfold okS sok zok; simp; omega) m m0 m1
              rw [if_pos (by omega), e5]
              simp only [Option.bind_some]
              rw [e6]
              simp only [Option.bind_some]
              rw [if_pos (by simp; omega), if_pos (by simp; omega)]
              exact ⟨_, _, _, e7, h7⟩
          · have : f = false := by simpa using cf
            subst this
            exact hplain i1 g1 ok1
        · rw [if_neg c6]
          exact hplain i g ok
    obtain ⟨k, rfl⟩ : ∃ m, k = m + 1 := ⟨k - 1, by omega⟩
    unfold spec_l05Block.f
    exact hl n.toNat k [] 0 i g ok (by omega) (by omega) (by push_cast at hk; omega) (good_nil _) (by unfold cap; simp; split <;> omega)
theorem good_blk {b : List S31} (h : Good b 2) (hl : (b.length : Int) ≤ 24) : blk b = true := by
  unfold blk fin
  have := h [] 0 (by omega) (by omega)
  rw [List.append_nil] at this
  rw [this]
  simp [scan]
  omega
theorem case_in {l : List Int} {i : Int} (g : Int) (ok : OkC l i) (k : Nat) (hk : 30 ≤ k) : ∃ b i' g', spec_l05Case.f k l i g = some (b, i', g') ∧ OkC l i' ∧ blk b = true := by
  unfold spec_l05Case.f
  obtain ⟨n, i1, g1, e1, ok1, n0, n1⟩ := below_tells g 6 ok (by omega)
  obtain ⟨b, i2, g2, e2, ok2, hg, hb⟩ := block_in 2 (by omega) k i1 g1 n ok1 n0 (by rw [if_pos rfl]; omega) (by omega)
  rw [e1]
  simp only [Option.bind_some]
  have e3 : spec_l05Block.f k l i1 g1 n 0 = some (b, i2, g2) := e2
  rw [e3]
  exact ⟨_, _, _, rfl, ok2, good_blk hg (by revert hb; unfold cap; simp; omega)⟩
theorem fend_find (u : List S31) : ∀ (d p : Int), 1 ≤ d → mnp u + d ≤ 0 → ∃ s c r, u = s ++ c :: r ∧ c.f0 = 6 ∧ d + tot s = 1 ∧ fend u d p = p + s.length := by
  induction u with
  | nil => intro d p h1 h2; have : mnp ([] : List S31) = 0 := rfl; omega
  | cons a t ih =>
    intro d p h1 h2
    have hm : mnp (a :: t) = if del a + mnp t < 0 then del a + mnp t else 0 := rfl
    have hf : fend (a :: t) d p = if a.f0 = 6 ∧ d = 1 then p else fend t (d + del a) (p + 1) := rfl
    by_cases c : a.f0 = 6 ∧ d = 1
    · refine ⟨[], a, t, rfl, c.1, ?_, ?_⟩
      · have : tot ([] : List S31) = 0 := rfl
        omega
      · rw [hf, if_pos c]; simp
    · have hd : del a = if a.f0 = 4 ∨ a.f0 = 5 then 1 else if a.f0 = 6 then -1 else 0 := rfl
      have hdi := del_in a
      have hde : 1 ≤ d + del a := by
        by_cases c6 : a.f0 = 6
        · omega
        · rw [hd]; split
          · omega
          · omega
      obtain ⟨s, x, r, e1, e2, e3, e4⟩ := ih (d + del a) (p + 1) hde (by rw [hm] at h2; revert h2; split <;> omega)
      refine ⟨a :: s, x, r, by rw [e1]; rfl, e2, ?_, ?_⟩
      · have : tot (a :: s) = del a + tot s := rfl
        omega
      · rw [hf, if_neg c, e4]; simp only [List.length_cons]; push_cast; omega
theorem depth_tells {x : List S31} (b : blk x = true) (i : Int) (h0 : 0 ≤ i) (h1 : i < x.length) (k : Nat) (hk : 2 * x.length + 5 ≤ k) : impl_DepthOf.f k x i = some (tot (x.take i.toNat)) := by
  have hs := blk_scan b
  obtain ⟨k, rfl⟩ : ∃ m, k = m + 1 := ⟨k - 1, by omega⟩
  unfold impl_DepthOf.f
  rw [iblock x (by omega) _ (by omega)]
  simp only [Option.bind_some]
  rw [if_pos b, within_eq, w64 (by omega) (by omega)]
  simp only [Option.bind_some]
  rw [decide_eq_true (by omega)]
  simp only [impl_DepthOf.j0, Option.bind_some, Bool.not_true, Bool.false_eq_true, if_false]
  rw [if_pos h0, if_pos (by omega)]
  have hlt : (x.take i.toNat).length = i.toNat := by rw [List.length_take]; omega
  have h1 := idepth (x.take i.toNat) k [] (x.take i.toNat) 0 rfl (by omega) (by omega) (by simp) (by simp)
  have h10 : ((([] : List S31).length : Nat) : Int) = 0 := rfl
  rw [h10] at h1
  rw [h1]
  congr 1; omega
theorem end_tells {x pre u : List S31} {a : S31} (b : blk x = true) (hx : x = pre ++ a :: u) (k : Nat) (hk : 2 * x.length + 5 ≤ k) : impl_EndOf.f k x (pre.length : Int) = some (if a.f0 = 4 ∨ a.f0 = 5 then fend u 1 ((pre.length : Int) + 1) else -1) := by
  have hs := blk_scan b
  have hu : x.length = pre.length + (u.length + 1) := by simp [hx]
  have hr : rd_T31 x (pre.length : Int) = a := by rw [hx]; exact rd_app pre a u
  unfold impl_EndOf.f
  rw [iblock x (by omega) _ (by omega)]
  simp only [Option.bind_some]
  rw [if_pos b, within_eq, w64 (by omega) (by omega)]
  simp only [Option.bind_some, decide_eq_true_eq]
  rw [if_pos (by omega), if_pos (by omega), if_pos (by omega), hr, opening_eq]
  simp only [Option.bind_some, decide_eq_true_eq]
  by_cases o : a.f0 = 4 ∨ a.f0 = 5
  · rw [if_pos o, if_pos o]
    unfold impl_endOf.f
    rw [iend (a :: u) k pre x 0 hx (by omega) (by simp; omega) (Or.inr ⟨by omega, a, u, rfl, o⟩) (by omega)]
    have hd : del a = 1 := by unfold del; rw [if_pos o]
    have h0 : fend (a :: u) 0 (pre.length : Int) = if a.f0 = 6 ∧ (0 : Int) = 1 then (pre.length : Int) else fend u (0 + del a) ((pre.length : Int) + 1) := rfl
    rw [h0, if_neg (by omega), hd]
    rfl
  · rw [if_neg o, if_neg o]
theorem loop (x : List S31) (b : blk x = true) (d : Nat) : ∀ (k : Nat) (i : Int), 0 ≤ i → (x.length : Int) - i = d → 2 * d + 2 * x.length + 10 ≤ k → laws_FnBlocks.l0 k x i = some true := by
  have hs := blk_scan b
  induction d with
  | zero =>
    intro k i h0 hd hk
    obtain ⟨k, rfl⟩ : ∃ m, k = m + 1 := ⟨k - 1, by omega⟩
    simp only [laws_FnBlocks.l0]
    rw [if_neg (by omega)]
  | succ d ih =>
    intro k i h0 hd hk
    obtain ⟨k, rfl⟩ : ∃ m, k = m + 2 := ⟨k - 2, by omega⟩
    obtain ⟨pre, a, u, hx, hp, hr⟩ := at_split x i h0 (by omega)
    have he := end_tells b hx (k + 1) (by omega)
    rw [hp] at he
    have next : laws_FnBlocks.l0 k x (wrap64 (i + 1)) = some true := by
      rw [w64 (by omega) (by omega)]
      exact ih k (i + 1) (by omega) (by omega) (by omega)
    have hsa := scan_app pre (a :: u) 0 0 (by omega) (by omega) (by rw [← hx]; exact hs.1)
    have hm := mnp_le pre
    have ht : tot x = tot pre + (del a + tot u) := by
      rw [hx, tot_app]
      have h4 : tot (a :: u) = del a + tot u := rfl
      rw [h4]
    have ht0 := blk_tot b
    simp only [laws_FnBlocks.l0]
    rw [if_pos (by omega), he]
    simp only [Option.bind_some]
    rw [if_pos h0, hr]
    by_cases o : a.f0 = 4 ∨ a.f0 = 5
    · have hdl : del a = 1 := by unfold del; rw [if_pos o]
      have hmu := mnp_le u
      obtain ⟨s, c, r, e1, e2, e3, e4⟩ := fend_find u 1 (i + 1) (by omega) (by omega)
      rw [if_pos o, e4]
      have hj : laws_FnBlocks.j2 (k + 1) x i (i + 1 + s.length) true = some true := by
        have hx2 : x = (pre ++ a :: s) ++ c :: r := by rw [hx, e1]; simp
        have hl2 : ((pre ++ a :: s).length : Int) = i + 1 + s.length := by simp; omega
        have hlx : x.length = (pre ++ a :: s).length + (r.length + 1) := by rw [hx2]; simp; omega
        have hre : rd_T31 x (i + 1 + s.length) = c := by rw [← hl2, hx2]; exact rd_app _ c r
        have d1 := depth_tells b (i + 1 + s.length) (by omega) (by omega) k (by omega)
        have d2 := depth_tells b i h0 (by omega) k (by omega)
        have t1 : x.take (i + 1 + s.length).toNat = pre ++ a :: s := by
          rw [← hl2, Int.toNat_natCast]
          conv => lhs; rw [hx2]
          exact List.take_left' rfl
        have t2 : x.take i.toNat = pre := by
          rw [← hp, Int.toNat_natCast]
          conv => lhs; rw [hx]
          exact List.take_left' rfl
        have t3 : tot (pre ++ a :: s) = tot pre + 1 := by
          rw [tot_app]
          have h4 : tot (a :: s) = del a + tot s := rfl
          omega
        simp only [laws_FnBlocks.j2]
        rw [decide_eq_true (show i + 1 + (s.length : Int) ≥ 0 by omega), if_neg (by simp), if_pos trivial, if_neg (by omega), if_neg (by omega), if_pos (by omega), if_pos (by omega), hre, if_pos e2, d1, d2, t1, t2, t3]
        simp only [Option.bind_some]
        have hti := tot_in pre
        rw [w64 (by omega) (by omega), if_pos rfl]
        exact next
      rcases o with o | o
      · rw [if_pos o]; exact hj
      · rw [if_neg (by omega), show (a.f0 == 5) = true by simp [o]]; exact hj
    · rw [if_neg o]
      have hj : laws_FnBlocks.j2 (k + 1) x i (-1) false = some true := by
        simp only [laws_FnBlocks.j2]
        rw [if_neg (by decide), if_neg (by simp)]
        exact next
      rw [if_neg (by omega), show (a.f0 == 5) = false by simp; omega]
      exact hj
theorem FnBlocks : laws_FnBlocks.Pure := by
  intro l _ hl _
  obtain ⟨g, eg⟩ := new_tells l (by omega)
  obtain ⟨x, i1, g1, ex, ok, hb⟩ := case_in g (ok_start (l := l) (by omega)) (l.length + 100) (by omega)
  have hs := blk_scan hb
  refine ⟨l.length + 200, ?_⟩
  have ed : spec_DrawBlock.f (l.length + 200) l = some x := by
    have e0 : spec_DrawBlock.f (l.length + 100) l = some x := by
      unfold spec_DrawBlock.f
      rw [eg _ (by omega)]
      simp only [Option.bind_some]
      rw [ex]
      rfl
    exact at_rounds (fun k => spec_DrawBlock.mono l k) (by omega : l.length + 100 ≤ l.length + 200) e0
  unfold laws_FnBlocks.f laws_big.f
  simp only [Option.bind_some]
  by_cases c : (l.length : Int) > 1048576
  · rw [if_pos (decide_eq_true c)]
  · rw [if_neg (by simp; omega), ed]
    simp only [Option.bind_some]
    rw [iblock x (by omega) _ (by omega)]
    simp only [Option.bind_some]
    rw [if_pos hb]
    have hj : laws_FnBlocks.j0 (l.length + 200) x false = some true := by
      simp only [laws_FnBlocks.j0, Bool.false_eq_true, if_false]
      exact loop x hb x.length _ 0 (by omega) (by omega) (by omega)
    by_cases c0 : (x.length : Int) > 0
    · rw [if_pos c0, depth_tells hb 0 (by omega) (by omega) _ (by omega)]
      simp only [Option.bind_some]
      have : tot (x.take (0 : Int).toNat) = 0 := rfl
      rw [this]
      exact hj
    · rw [if_neg c0]; exact hj

end Go.Proofs.Ytkjdhmffknahgaa.Pure
