/- The program's ParseStmt and the reference's give the same statement and the same flag for every line; the row's tables of the library hold what the card ties. -/
import Derived.Test.YtcpmkcidehhbiaaDoorPFnExactParseStmtx12
import Derived.Laws.Concat
import Derived.Laws.Strings
import Derived.Lib.ItoaMem
import Derived.Lib.SplitLaws
import Derived.Lib.IndexBytes
import Derived.Lib.AtoiAllCases
import Derived.Lib.FieldsLaws
import Derived.Lib.Join
import Derived.Lib.SlicesS
namespace Go.Proofs.YtcpmkcidehhbiaaDoor.Pure
open Go.RowKit Go.Proofs.YtcpmkcidehhbiaaDoor.PFnExactParseStmt Go.Proofs.YtcpmkcidehhbiaaDoorW.PrintWords Go.Proofs.YtcpmkcidehhbiaaDoorW.PrintLast
set_option linter.unusedVariables false
set_option linter.unusedSimpArgs false

theorem w64 {n : Int} (h1 : -9223372036854775808 ≤ n) (h2 : n ≤ 9223372036854775807) : wrap64 n = n := by unfold wrap64; omega
theorem w64_in (n : Int) : -9223372036854775808 ≤ wrap64 n ∧ wrap64 n ≤ 9223372036854775807 := by unfold wrap64; omega
theorem wf64 {n : Int} (h : (Lit.int .i64 n).wf = true) : -9223372036854775808 ≤ n ∧ n ≤ 9223372036854775807 := by
  simp only [Lit.wf, IntKind.min, IntKind.max, IntKind.signed, IntKind.bits, Bool.and_eq_true, decide_eq_true_eq, if_true] at h
  omega
theorem wfu8 {n : Int} (h : (Lit.int .u8 n).wf = true) : 0 ≤ n ∧ n ≤ 255 := by
  simp [Lit.wf, IntKind.min, IntKind.max, IntKind.signed, IntKind.bits] at h
  omega
theorem and_in (x : Int) (m : Nat) (hm : m < 9223372036854775808) : 0 ≤ Go.bits .and .i64 x (m : Int) ∧ Go.bits .and .i64 x (m : Int) ≤ m := by
  have h1 : (BitVec.ofInt 64 x &&& BitVec.ofInt 64 (m : Int)).toNat ≤ m := by
    rw [BitVec.toNat_and]
    refine Nat.le_trans Nat.and_le_right ?_
    rw [BitVec.ofInt_natCast, BitVec.toNat_ofNat]
    exact Nat.mod_le _ _
  have h2 : Go.bits .and .i64 x (m : Int) = IntKind.i64.wrap (((BitVec.ofInt 64 x &&& BitVec.ofInt 64 (m : Int)).toNat : Nat) : Int) := rfl
  rw [h2, Go.IntKind.wrap_i64]
  omega
theorem and255 (x : Int) : 0 ≤ Go.bits .and .i64 x 255 ∧ Go.bits .and .i64 x 255 ≤ 255 := and_in x 255 (by decide)
theorem tmod_in (x n : Int) (h0 : 0 ≤ x) (h : 1 ≤ n) : 0 ≤ Int.tmod x n ∧ Int.tmod x n < n := ⟨Int.tmod_nonneg _ h0, Int.tmod_lt_of_pos _ (by omega)⟩
/-- A text out of its bytes. -/
def tx (l : List UInt8) : ByteArray := ⟨l.toArray⟩
theorem tx_size (l : List UInt8) : (tx l).size = l.length := by simp [tx, ByteArray.size]
theorem tx_list (l : List UInt8) : (tx l).data.toList = l := rfl
theorem tx_app (a b : List UInt8) : tx a ++ tx b = tx (a ++ b) := by unfold tx; exact ByteArray.mk_append_mk _ _
theorem tx_back (s : ByteArray) : tx s.data.toList = s := by cases s; simp [tx]
theorem size_tl (s : ByteArray) : s.size = s.data.toList.length := (Array.length_toList).symm
theorem tl_eq (a b : ByteArray) : a.toList = b.toList ↔ a.data.toList = b.data.toList := by rw [ByteArray.toList_eq, ByteArray.toList_eq]
theorem tx_inj (a b : List UInt8) : tx a = tx b ↔ a = b := by
  constructor
  · intro h
    have := congrArg (fun s : ByteArray => s.data.toList) h
    simpa [tx] using this
  · rintro rfl; rfl
theorem bt_tx (s : ByteArray) (pre : List UInt8) (c : UInt8) (u : List UInt8) (h : s.data.toList = pre ++ c :: u) : bt s (pre.length : Int) = (c.toNat : Int) := by
  have hl : s.data.toList.length = pre.length + (u.length + 1) := by rw [h]; simp
  have hz : pre.length < s.size := by have := size_tl s; omega
  unfold bt
  rw [dif_pos (by simpa using hz)]
  have e : s[((pre.length : Nat) : Int).toNat]'(by simpa using hz) = s.data.toList[pre.length]'(by omega) := by simp [ByteArray.getElem_eq_getElem_data]
  rw [e]
  have e2 : s.data.toList[pre.length]'(by omega) = c := by simp only [h]; simp
  rw [e2]
theorem nd_le : ∀ (k u : Nat), u < 10 ^ (k + 1) → Lib.nDigits u ≤ k + 1 := by
  intro k
  induction k with
  | zero => intro u hu; rw [Lib.nDigits_small (by simpa using hu)]; omega
  | succ k ih =>
    intro u hu
    by_cases c : u < 10
    · rw [Lib.nDigits_small c]; omega
    · rw [Lib.nDigits_big c]
      have := ih (u / 10) (by rw [Nat.pow_succ] at hu; omega)
      omega
theorem itoa_len {n : Int} (h0 : -9223372036854775808 ≤ n) (h1 : n ≤ 9223372036854775807) : (Lib.itoa n).length ≤ 20 := by
  have hp : (9223372036854775808 : Nat) < 10 ^ 19 := by decide
  unfold Lib.itoa
  split
  · rw [List.length_cons, Lib.decDigits_length]
    have := nd_le 18 n.natAbs (by show n.natAbs < 10 ^ 19; omega)
    omega
  · rw [Lib.decDigits_length]
    have := nd_le 18 n.toNat (by show n.toNat < 10 ^ 19; omega)
    omega
/-- The digits of u, none of nought. -/
def dgs (u : Nat) : List UInt8 := if u = 0 then [] else Lib.decDigits u
theorem dgs_step (u : Nat) (h : 1 ≤ u) : dgs u = dgs (u / 10) ++ [UInt8.ofNat (48 + u % 10)] := by
  unfold dgs
  rw [if_neg (by omega)]
  by_cases c : u < 10
  · rw [Lib.decDigits_one c, if_pos (by omega)]
    rw [show u % 10 = u by omega]; rfl
  · rw [if_neg (by omega)]
    conv => lhs; rw [Lib.decDigits, dif_neg c]
theorem fig1 (v : Nat) (h : v < 10) : spec_l01Figure.f (v : Int) = some (((48 + v : Nat) : Int)) := by
  unfold spec_l01Figure.f
  rw [if_pos (by omega), w64 (by omega) (by omega)]
  congr 1; omega
theorem fmt_loop (b : Bool) (k : Nat) : ∀ (x : Int) (u : Nat) (l : List UInt8), x = u ∨ x = -(u : Int) → u < 10 ^ k → u ≤ 9223372036854775808 → l.length + k ≤ 40 → x ≤ 9223372036854775807 →
    spec_FormatInt.l0 (k + 1) x b ⟨l.toArray⟩ = some (if b = true then ⟨(45 :: (dgs u ++ l)).toArray⟩ else ⟨(dgs u ++ l).toArray⟩) := by
  induction k with
  | zero =>
    intro x u l hx hu _ hl _
    have h0 : u = 0 := by simpa using hu
    have hx0 : x = 0 := by omega
    simp only [spec_FormatInt.l0]
    rw [if_pos hx0, h0]
    have hz : (ByteArray.mk l.toArray).size = l.length := by simp [ByteArray.size]
    have e : (⟨#[45]⟩ : ByteArray) ++ ⟨l.toArray⟩ = ⟨(45 :: l).toArray⟩ := ByteArray.mk_append_mk [45] l
    have hc : 1 + (ByteArray.mk l.toArray).size ≤ 9223372036854775807 := by rw [hz]; omega
    rw [e, if_pos hc]
    have : dgs 0 ++ l = l := rfl
    rw [this]
    cases b <;> rfl
  | succ k ih =>
    intro x u l hx hu hu2 hl hx2
    obtain ⟨m, hm⟩ : ∃ m, m = k + 1 := ⟨_, rfl⟩
    rw [← hm] at ih ⊢
    have hz : (ByteArray.mk l.toArray).size = l.length := by simp [ByteArray.size]
    by_cases h0 : u = 0
    · have hx0 : x = 0 := by omega
      simp only [spec_FormatInt.l0]
      rw [if_pos hx0, h0]
      have e : (⟨#[45]⟩ : ByteArray) ++ ⟨l.toArray⟩ = ⟨(45 :: l).toArray⟩ := ByteArray.mk_append_mk [45] l
      have hc : 1 + (ByteArray.mk l.toArray).size ≤ 9223372036854775807 := by rw [hz]; omega
      rw [e, if_pos hc]
      have : dgs 0 ++ l = l := rfl
      rw [this]
      cases b <;> rfl
    · have hs := dgs_step u (by omega)
      have hv : u % 10 < 10 := Nat.mod_lt _ (by omega)
      have hd : u / 10 < 10 ^ k := by rw [Nat.div_lt_iff_lt_mul (by omega)]; rw [Nat.pow_succ] at hu; exact hu
      have hS : strOfNums [((48 + u % 10 : Nat) : Int)] = ⟨[UInt8.ofNat (48 + u % 10)].toArray⟩ := by unfold strOfNums; rw [List.map_cons, List.map_nil, Int.toNat_natCast]
      have e : strOfNums [((48 + u % 10 : Nat) : Int)] ++ (⟨l.toArray⟩ : ByteArray) = ⟨(UInt8.ofNat (48 + u % 10) :: l).toArray⟩ := by rw [hS]; exact ByteArray.mk_append_mk _ l
      have hsz : (strOfNums [((48 + u % 10 : Nat) : Int)]).size = 1 := by rw [strOfNums_size]; rfl
      have ht : dgs (u / 10) ++ (UInt8.ofNat (48 + u % 10) :: l) = dgs u ++ l := by rw [hs]; simp
      simp only [spec_FormatInt.l0]
      rw [if_neg (by omega)]
      rcases hx with hx | hx
      · have h1 : Int.tmod x 10 = ((u % 10 : Nat) : Int) := by rw [hx, Int.tmod_eq_emod_of_nonneg (by omega)]; rfl
        have h2 : Int.tdiv x 10 = ((u / 10 : Nat) : Int) := by rw [hx, Int.tdiv_eq_ediv_of_nonneg (by omega)]; rfl
        rw [h1, h2, if_neg (by omega), fig1 _ hv]
        simp only [Option.bind_some]
        rw [hsz, hz, if_pos (by omega), w64 (by omega) (by omega), e, ih _ (u / 10) _ (Or.inl rfl) hd (by omega) (by simp only [List.length_cons]; omega) (by omega), ht]
      · have h1 : Int.tmod x 10 = -((u % 10 : Nat) : Int) := by rw [hx, Int.neg_tmod, Int.tmod_eq_emod_of_nonneg (by omega)]; rfl
        have h2 : Int.tdiv x 10 = -((u / 10 : Nat) : Int) := by rw [hx, Int.neg_tdiv, Int.tdiv_eq_ediv_of_nonneg (by omega)]; rfl
        rw [h1, h2]
        by_cases c : u % 10 = 0
        · have hf := fig1 0 (by omega)
          rw [if_neg (by omega), c, show -((0 : Nat) : Int) = ((0 : Nat) : Int) from rfl, hf]
          simp only [Option.bind_some]
          rw [c] at hsz e ht
          rw [hsz, hz, if_pos (by omega), w64 (by omega) (by omega), e, ih _ (u / 10) _ (Or.inr rfl) hd (by omega) (by simp only [List.length_cons]; omega) (by omega), ht]
        · rw [if_pos (by omega), w64 (n := - -((u % 10 : Nat) : Int)) (by omega) (by omega), Int.neg_neg, fig1 _ hv]
          simp only [Option.bind_some]
          rw [hsz, hz, if_pos (by omega), w64 (by omega) (by omega), e, ih _ (u / 10) _ (Or.inr rfl) hd (by omega) (by simp only [List.length_cons]; omega) (by omega), ht]
theorem sfmt (n : Int) (h0 : -9223372036854775808 ≤ n) (h1 : n ≤ 9223372036854775807) (k : Nat) (hk : 20 ≤ k) : spec_FormatInt.f k n = some ⟨(Lib.itoa n).toArray⟩ := by
  have hp : (9223372036854775808 : Nat) < 10 ^ 19 := by decide
  unfold spec_FormatInt.f Lib.itoa
  by_cases c : n = 0
  · rw [if_pos c, c, if_neg (by omega), show (0 : Int).toNat = 0 from rfl, Lib.decDigits_one (by omega)]; rfl
  · rw [if_neg c]
    have h := fmt_loop (decide (n < 0)) 19 n n.natAbs [] (by omega) (by omega) (by omega) (by simp) h1
    have e : (⟨#[]⟩ : ByteArray) = ⟨([] : List UInt8).toArray⟩ := rfl
    rw [e, at_rounds (fun k => spec_FormatInt.mono_l k _ _ _) (by omega : 19 + 1 ≤ k) h, List.append_nil]
    have hd : dgs n.natAbs = Lib.decDigits n.natAbs := by unfold dgs; rw [if_neg (by omega)]
    rw [hd]
    by_cases d : n < 0
    · rw [if_pos (decide_eq_true d), if_pos d]
    · rw [if_neg (by simp; omega), if_neg d, show n.natAbs = n.toNat by omega]
theorem ifmt (n : Int) (h0 : -9223372036854775808 ≤ n) (h1 : n ≤ 9223372036854775807) : impl_FormatInt.f n = some ⟨(Lib.itoa n).toArray⟩ := by
  unfold impl_FormatInt.f
  rw [if_pos ⟨h0, h1⟩]
theorem in_eq (a b c : Int) : spec_l01In.f a b c = some (decide (b ≤ a ∧ a ≤ c)) := by
  unfold spec_l01In.f
  by_cases h : a ≥ b
  · rw [if_pos h]; simp; omega
  · rw [if_neg h]; simp; omega
theorem within_eq (a b c : Int) : impl_within.f a b c = some (decide (b ≤ a ∧ a ≤ c)) := by
  unfold impl_within.f
  by_cases h : a ≥ b
  · rw [if_pos h]; simp; omega
  · rw [if_neg h]; simp; omega
/-- A valid expression. -/
def eok (o a b : Int) : Bool := decide (1 ≤ o ∧ o ≤ 7) && (decide (-8 ≤ a ∧ a ≤ 999) && decide (-8 ≤ b ∧ b ≤ 999))
theorem iexpr (o a b : Int) : impl_ExprOk.f o a b = some (eok o a b) := by
  unfold impl_ExprOk.f impl_OperandOk.f eok
  simp only [within_eq, Option.bind_some]
  cases decide (1 ≤ o ∧ o ≤ 7) <;> cases decide (-8 ≤ a ∧ a ≤ 999) <;> simp
theorem eok_in {o a b : Int} (h : eok o a b = true) : (1 ≤ o ∧ o ≤ 7) ∧ (-8 ≤ a ∧ a ≤ 999) ∧ (-8 ≤ b ∧ b ≤ 999) := by
  unfold eok at h
  simp only [Bool.and_eq_true, decide_eq_true_eq] at h
  exact h
theorem sexpr (o a b : Int) : spec_ExprOk.f o a b = some (eok o a b) := by
  unfold spec_ExprOk.f spec_OperandOk.f eok
  simp only [in_eq, Option.bind_some]
  cases decide (1 ≤ o ∧ o ≤ 7) <;> cases decide (-8 ≤ a ∧ a ≤ 999) <;> simp
/-- A valid statement. -/
def zok (o a b : Int) : Bool := decide (o = 0) && (decide (a = 0) && decide (b = 0))
def sok (c v n o a b : Int) : Bool :=
  if c = 1 then decide (0 ≤ v ∧ v ≤ 7) && (decide (n = 0) && eok o a b)
  else if c = 2 then decide (0 ≤ v ∧ v ≤ 7) && (decide (0 ≤ n ∧ n ≤ 3) && zok o a b)
  else if c = 3 then decide (v = 0) && (decide (n = 0) && eok o a b)
  else if c = 4 then decide (v = 0) && (decide (n = 0) && eok o a b)
  else if c = 5 then decide (v = 0) && (decide (1 ≤ n ∧ n ≤ 5) && zok o a b)
  else if c = 6 then decide (v = 0) && (decide (n = 0) && zok o a b)
  else false
theorem hasVar_eq (c : Int) : impl_hasVar.f c = some (decide (c = 1 ∨ c = 2)) := by
  unfold impl_hasVar.f
  by_cases h : c = 1
  · rw [if_pos h]; simp [h]
  · rw [if_neg h]; simp [h]; rfl
theorem hasExpr_eq (c : Int) : impl_hasExpr.f c = some (decide (c = 1 ∨ c = 3 ∨ c = 4)) := by
  unfold impl_hasExpr.f
  by_cases h : c = 1
  · rw [if_pos h]; simp [h]
  · rw [if_neg h]
    by_cases h2 : c = 3
    · rw [if_pos h2]; simp [h2]
    · rw [if_neg h2]; simp [h, h2]; rfl
theorem isVar_eq (v : Int) : impl_isVar.f v = some (decide (0 ≤ v ∧ v ≤ 7)) := by
  unfold impl_isVar.f; rw [within_eq]; rfl
theorem isSensor_eq (v : Int) : impl_isSensor.f v = some (decide (0 ≤ v ∧ v ≤ 3)) := by
  unfold impl_isSensor.f; rw [within_eq]; rfl
theorem istmt (c v n o a b : Int) (k : Nat) (hk : 2 ≤ k) : impl_StmtOk.f k c v n o a b = some (sok c v n o a b) := by
  obtain ⟨k, rfl⟩ : ∃ m, k = m + 2 := ⟨k - 2, by omega⟩
  unfold impl_StmtOk.f sok zok
  simp only [within_eq, hasVar_eq, isVar_eq, hasExpr_eq, isSensor_eq, iexpr, Option.bind_some, impl_StmtOk.j0, impl_StmtOk.j1]
  by_cases h1 : c = 1
  · subst h1
    cases decide (0 ≤ v ∧ v ≤ 7) <;> cases eok o a b <;> by_cases hn : n = 0 <;> simp [hn]
  · by_cases h2 : c = 2
    · subst h2
      cases decide (0 ≤ v ∧ v ≤ 7) <;> cases decide (0 ≤ n ∧ n ≤ 3) <;> by_cases ho : o = 0 <;> by_cases ha : a = 0 <;> by_cases hb : b = 0 <;> simp [ho, ha, hb]
    · by_cases h3 : c = 3
      · subst h3
        cases eok o a b <;> by_cases hn : n = 0 <;> by_cases hv : v = 0 <;> simp [hn, hv]
      · by_cases h4 : c = 4
        · subst h4
          cases eok o a b <;> by_cases hn : n = 0 <;> by_cases hv : v = 0 <;> simp [hn, hv]
        · by_cases h5 : c = 5
          · subst h5
            cases decide (1 ≤ n ∧ n ≤ 5) <;> by_cases hv : v = 0 <;> by_cases ho : o = 0 <;> by_cases ha : a = 0 <;> by_cases hb : b = 0 <;> simp [hv, ho, ha, hb]
          · by_cases h6 : c = 6
            · subst h6
              by_cases hn : n = 0 <;> by_cases hv : v = 0 <;> by_cases ho : o = 0 <;> by_cases ha : a = 0 <;> by_cases hb : b = 0 <;> simp [hn, hv, ho, ha, hb]
            · have hw : ¬ (1 ≤ c ∧ c ≤ 6) := by omega
              simp [h1, h2, h3, h4, h5, h6, hw]
theorem sstmt (c v n o a b : Int) (k : Nat) (hk : 2 ≤ k) : spec_StmtOk.f k c v n o a b = some (sok c v n o a b) := by
  obtain ⟨k, rfl⟩ : ∃ m, k = m + 2 := ⟨k - 2, by omega⟩
  unfold spec_StmtOk.f spec_l04Plain.f sok zok
  simp only [in_eq, sexpr, Option.bind_some, spec_StmtOk.j0]
  by_cases h1 : c = 1
  · subst h1
    cases decide (0 ≤ v ∧ v ≤ 7) <;> cases eok o a b <;> by_cases hn : n = 0 <;> simp [hn]
  · by_cases h2 : c = 2
    · subst h2
      cases decide (0 ≤ v ∧ v ≤ 7) <;> cases decide (0 ≤ n ∧ n ≤ 3) <;> by_cases ho : o = 0 <;> by_cases ha : a = 0 <;> by_cases hb : b = 0 <;> simp [ho, ha, hb]
    · by_cases h3 : c = 3
      · subst h3
        cases eok o a b <;> by_cases hn : n = 0 <;> by_cases hv : v = 0 <;> simp [hn, hv]
      · by_cases h4 : c = 4
        · subst h4
          cases eok o a b <;> by_cases hn : n = 0 <;> by_cases hv : v = 0 <;> simp [hn, hv]
        · by_cases h5 : c = 5
          · subst h5
            cases decide (1 ≤ n ∧ n ≤ 5) <;> by_cases hv : v = 0 <;> by_cases ho : o = 0 <;> by_cases ha : a = 0 <;> by_cases hb : b = 0 <;> simp [hv, ho, ha, hb]
          · by_cases h6 : c = 6
            · subst h6
              by_cases hn : n = 0 <;> by_cases hv : v = 0 <;> by_cases ho : o = 0 <;> by_cases ha : a = 0 <;> by_cases hb : b = 0 <;> simp [hn, hv, ho, ha, hb]
            · by_cases hn : n = 0 <;> by_cases hv : v = 0 <;> by_cases ho : o = 0 <;> by_cases ha : a = 0 <;> by_cases hb : b = 0 <;> simp [h1, h2, h3, h4, h5, h6, hn, hv, ho, ha, hb]
/-- A number behind a space. -/
def spn (n : Int) : List UInt8 := 32 :: Lib.itoa n
/-- A statement's word. -/
def kw (c : Int) : List UInt8 := if c = 1 then [115, 101, 116] else if c = 2 then [115, 101, 110, 115, 101] else if c = 3 then [115, 101, 110, 100] else if c = 4 then [105, 102] else if c = 5 then [108, 111, 111, 112] else [101, 110, 100]
/-- A statement's numbers. -/
def nums (c v n o a b : Int) : List Int := if c = 1 then [v, o, a, b] else if c = 2 then [v, n] else if c = 3 ∨ c = 4 then [o, a, b] else if c = 5 then [n] else []
/-- A statement's text. -/
def canon (c v n o a b : Int) : List UInt8 := kw c ++ (nums c v n o a b).flatMap spn
theorem rd_at (pre : List Int) (n : Int) (u : List Int) : rd (pre ++ n :: u) (pre.length : Int) = n := by
  unfold Go.Proofs.YtcpmkcidehhbiaaDoorW.PrintWords.rd
  simp [List.getD]
def i64 (n : Int) : Prop := -9223372036854775808 ≤ n ∧ n ≤ 9223372036854775807
theorem spn_tx (n : Int) : (⟨#[32]⟩ : ByteArray) ++ (⟨(Lib.itoa n).toArray⟩ : ByteArray) = tx (spn n) := tx_app [32] (Lib.itoa n)
theorem spn_len {n : Int} (h : i64 n) : (spn n).length ≤ 21 := by
  have := itoa_len h.1 h.2
  unfold spn
  rw [List.length_cons]; omega
theorem spaced_loop (ns : List Int) (hl : ns.length ≤ 100) (u : List Int) : ∀ (k : Nat) (x : List UInt8) (pre : List Int), ns = pre ++ u → (∀ n ∈ u, i64 n) → x.length + 30 * u.length ≤ 100000 → u.length < k →
    impl_spaced.l0 k (tx x) ns (ns.length : Int) (pre.length : Int) = some (tx (x ++ u.flatMap spn)) := by
  induction u with
  | nil =>
    intro k x pre e _ _ hk
    obtain ⟨k, rfl⟩ : ∃ m, k = m + 1 := ⟨k - 1, by omega⟩
    simp only [impl_spaced.l0]
    rw [if_neg (by rw [e]; simp)]
    simp
  | cons n u ih =>
    intro k x pre e hn hx hk
    simp only [List.length_cons] at hk hx
    obtain ⟨k, rfl⟩ : ∃ m, k = m + 1 := ⟨k - 1, by omega⟩
    have hlen : ns.length = pre.length + (u.length + 1) := by rw [e]; simp
    have h0 := hn n (by simp)
    have hs := spn_len h0
    have hz : (⟨(Lib.itoa n).toArray⟩ : ByteArray).size = (Lib.itoa n).length := tx_size _
    have hi := itoa_len h0.1 h0.2
    have i2 := ih k (x ++ spn n) (pre ++ [n]) (by rw [e]; simp) (fun y hy => hn y (by simp [hy])) (by rw [List.length_append]; omega) (by omega)
    rw [List.length_append, List.length_singleton] at i2
    simp only [impl_spaced.l0]
    rw [if_pos (by omega), if_pos (by omega), if_pos (by omega), show rd ns (pre.length : Int) = n by rw [e]; exact rd_at pre n u, ifmt n h0.1 h0.2]
    simp only [Option.bind_some]
    rw [spn_tx, tx_size, tx_size, hz, if_pos (by omega), if_pos (by omega), tx_app, w64 (by omega) (by omega), show ((pre.length : Nat) : Int) + 1 = ((pre.length + 1 : Nat) : Int) by omega, i2]
    simp
theorem spaced_tells (x : List UInt8) (ns : List Int) (hl : ns.length ≤ 100) (hx : x.length ≤ 1000) (hn : ∀ n ∈ ns, i64 n) (k : Nat) (hk : ns.length < k) : impl_spaced.f k (tx x) ns = some (tx (x ++ ns.flatMap spn)) := by
  unfold impl_spaced.f
  exact spaced_loop ns hl ns k x [] (by simp) hn (by omega) hk
theorem hasN_eq (c : Int) : impl_hasN.f c = some (decide (c = 2 ∨ c = 5)) := by
  unfold impl_hasN.f
  by_cases h : c = 2
  · rw [if_pos h]; simp [h]
  · rw [if_neg h]; simp [h]; rfl
theorem sok_kind {c v n o a b : Int} (h : sok c v n o a b = true) : c = 1 ∨ c = 2 ∨ c = 3 ∨ c = 4 ∨ c = 5 ∨ c = 6 := by
  unfold sok at h
  by_cases h1 : c = 1; · exact Or.inl h1
  by_cases h2 : c = 2; · exact Or.inr (Or.inl h2)
  by_cases h3 : c = 3; · exact Or.inr (Or.inr (Or.inl h3))
  by_cases h4 : c = 4; · exact Or.inr (Or.inr (Or.inr (Or.inl h4)))
  by_cases h5 : c = 5; · exact Or.inr (Or.inr (Or.inr (Or.inr (Or.inl h5))))
  by_cases h6 : c = 6; · exact Or.inr (Or.inr (Or.inr (Or.inr (Or.inr h6))))
  rw [if_neg h1, if_neg h2, if_neg h3, if_neg h4, if_neg h5, if_neg h6] at h
  cases h
/-- The numbers of a valid statement are small. -/
theorem nums_small {c v n o a b : Int} (h : sok c v n o a b = true) : ∀ x ∈ nums c v n o a b, -8 ≤ x ∧ x ≤ 999 := by
  intro x hx
  rcases sok_kind h with rfl | rfl | rfl | rfl | rfl | rfl
  · simp only [sok, if_true, Bool.and_eq_true, decide_eq_true_eq] at h
    have he := eok_in h.2.2
    simp only [nums, if_true, List.mem_cons, List.not_mem_nil, or_false] at hx
    omega
  · simp [sok] at h
    simp [nums] at hx
    omega
  · simp [sok] at h
    have he := eok_in h.2.2
    simp [nums] at hx
    omega
  · simp [sok] at h
    have he := eok_in h.2.2
    simp [nums] at hx
    omega
  · simp [sok] at h
    simp [nums] at hx
    omega
  · simp [nums] at hx
theorem nums_len (c v n o a b : Int) : (nums c v n o a b).length ≤ 4 := by
  unfold nums
  repeat' split
  all_goals simp
theorem kw_len (c : Int) : (kw c).length ≤ 5 := by
  unfold kw
  repeat' split
  all_goals simp
theorem iformat (c v n o a b : Int) (k : Nat) (hk : 20 ≤ k) : impl_FormatStmt.f k c v n o a b = some (tx (if sok c v n o a b = true then canon c v n o a b else [])) := by
  unfold impl_FormatStmt.f
  rw [istmt c v n o a b k (by omega)]
  simp only [Option.bind_some]
  by_cases h : sok c v n o a b = true
  · rw [if_pos h, if_pos h]
    have hs := nums_small h
    have hi : ∀ x ∈ nums c v n o a b, i64 x := fun x hx => by have := hs x hx; unfold i64; omega
    have hsp := spaced_tells (kw c) (nums c v n o a b) (by have := nums_len c v n o a b; omega) (by have := kw_len c; omega) hi
    obtain ⟨k, rfl⟩ : ∃ m, k = m + 2 := ⟨k - 2, by omega⟩
    have h2 := hsp k (by have := nums_len c v n o a b; omega)
    unfold canon
    rcases sok_kind h with rfl | rfl | rfl | rfl | rfl | rfl <;>
      simp [hasVar_eq, hasN_eq, hasExpr_eq, impl_FormatStmt.j0, impl_FormatStmt.j1, impl_stmtNames.f, Go.Proofs.YtcpmkcidehhbiaaDoorW.PrintWords.rdOf, nums, kw] at h2 ⊢ <;> exact h2
  · rw [if_neg h, if_neg h]; rfl
theorem sfmt_tx {n : Int} (h : i64 n) (k : Nat) (hk : 20 ≤ k) : spec_FormatInt.f k n = some (tx (Lib.itoa n)) := sfmt n h.1 h.2 k hk
theorem l04_tells {o a b : Int} (ho : i64 o) (ha : i64 a) (hb : i64 b) (k : Nat) (hk : 20 ≤ k) : spec_l04Expr.f k o a b = some (tx ([o, a, b].flatMap spn)) := by
  have h1 := itoa_len ho.1 ho.2
  have h2 := itoa_len ha.1 ha.2
  have h3 := itoa_len hb.1 hb.2
  have e : (⟨#[32]⟩ : ByteArray) = tx [32] := rfl
  unfold spec_l04Expr.f
  rw [sfmt_tx ho k hk, sfmt_tx ha k hk, sfmt_tx hb k hk]
  simp only [Option.bind_some, e, tx_app, tx_size, List.length_append, List.length_singleton]
  rw [if_pos (by omega), if_pos (by omega), if_pos (by omega), if_pos (by omega), if_pos (by omega)]
  congr 2
  simp [spn]
theorem sformat (c v n o a b : Int) (k : Nat) (hk : 20 ≤ k) : spec_FormatStmt.f k c v n o a b = some (tx (if sok c v n o a b = true then canon c v n o a b else [])) := by
  unfold spec_FormatStmt.f
  rw [sstmt c v n o a b k (by omega)]
  simp only [Option.bind_some]
  by_cases h : sok c v n o a b = true
  · rw [if_pos h, if_pos h]
    have hs := nums_small h
    have hi : ∀ x ∈ nums c v n o a b, i64 x := fun x hx => by have := hs x hx; unfold i64; omega
    unfold canon
    rcases sok_kind h with rfl | rfl | rfl | rfl | rfl | rfl
    · simp only [nums, if_true, List.mem_cons, List.not_mem_nil, or_false, forall_eq_or_imp, forall_eq] at hi
      have h1 := itoa_len hi.1.1 hi.1.2
      have h2 := spn_len hi.2.1
      have h3 := spn_len hi.2.2.1
      have h4 := spn_len hi.2.2.2
      rw [if_pos rfl, sfmt_tx hi.1 k hk, l04_tells hi.2.1 hi.2.2.1 hi.2.2.2 k hk]
      have e : (⟨#[115, 101, 116, 32]⟩ : ByteArray) = tx [115, 101, 116, 32] := rfl
      simp only [Option.bind_some, e, tx_app, tx_size, List.length_append, List.length_cons, List.length_nil, List.flatMap_cons, List.flatMap_nil]
      rw [if_pos (by omega), if_pos (by omega)]
      simp [nums, kw, spn]
    · simp [nums] at hi
      have h1 := itoa_len hi.1.1 hi.1.2
      have h2 := itoa_len hi.2.1 hi.2.2
      rw [if_neg (by omega), if_pos rfl, sfmt_tx hi.1 k hk, sfmt_tx hi.2 k hk]
      have e : (⟨#[115, 101, 110, 115, 101, 32]⟩ : ByteArray) = tx [115, 101, 110, 115, 101, 32] := rfl
      have e2 : (⟨#[32]⟩ : ByteArray) = tx [32] := rfl
      simp only [Option.bind_some, e, e2, tx_app, tx_size, List.length_append, List.length_cons, List.length_nil]
      rw [if_pos (by omega), if_pos (by omega), if_pos (by omega)]
      simp [nums, kw, spn]
    · simp [nums] at hi
      have h2 := spn_len hi.1
      have h3 := spn_len hi.2.1
      have h4 := spn_len hi.2.2
      rw [if_neg (by omega), if_neg (by omega), if_pos rfl, l04_tells hi.1 hi.2.1 hi.2.2 k hk]
      have e : (⟨#[115, 101, 110, 100]⟩ : ByteArray) = tx [115, 101, 110, 100] := rfl
      simp only [Option.bind_some, e, tx_app, tx_size, List.length_append, List.length_cons, List.length_nil, List.flatMap_cons, List.flatMap_nil]
      rw [if_pos (by omega)]
      simp [nums, kw, spn]
    · simp [nums] at hi
      have h2 := spn_len hi.1
      have h3 := spn_len hi.2.1
      have h4 := spn_len hi.2.2
      rw [if_neg (by omega), if_neg (by omega), if_neg (by omega), if_pos rfl, l04_tells hi.1 hi.2.1 hi.2.2 k hk]
      have e : (⟨#[105, 102]⟩ : ByteArray) = tx [105, 102] := rfl
      simp only [Option.bind_some, e, tx_app, tx_size, List.length_append, List.length_cons, List.length_nil, List.flatMap_cons, List.flatMap_nil]
      rw [if_pos (by omega)]
      simp [nums, kw, spn]
    · simp [nums] at hi
      have h1 := itoa_len hi.1 hi.2
      rw [if_neg (by omega), if_neg (by omega), if_neg (by omega), if_neg (by omega), if_pos rfl, sfmt_tx hi k hk]
      have e : (⟨#[108, 111, 111, 112, 32]⟩ : ByteArray) = tx [108, 111, 111, 112, 32] := rfl
      simp only [Option.bind_some, e, tx_app, tx_size, List.length_append, List.length_cons, List.length_nil]
      rw [if_pos (by omega)]
      simp [nums, kw, spn]
    · rw [if_neg (by omega), if_neg (by omega), if_neg (by omega), if_neg (by omega), if_neg (by omega)]
      rfl
  · rw [if_neg h, if_neg h]; rfl
theorem pu_app (l : List UInt8) : ∀ (acc u : Nat) (r : List UInt8), Lib.parseUint10 acc l = .ok u → Lib.parseUint10 acc (l ++ r) = Lib.parseUint10 u r := by
  induction l with
  | nil => intro acc u r h; simp only [Lib.parseUint10] at h; injection h with h; subst h; rfl
  | cons c l ih =>
    intro acc u r h
    simp only [Lib.parseUint10] at h
    split at h
    · rename_i hc
      split at h
      · cases h
      · rename_i h1
        split at h
        · cases h
        · rename_i h2
          rw [List.cons_append]
          simp only [Lib.parseUint10]
          rw [if_pos hc, if_neg h1, if_neg h2]
          exact ih _ _ _ h
    · cases h
theorem fig_nat (n : Nat) (h : n < 10) : (UInt8.ofNat (48 + n)).toNat = 48 + n := UInt8.toNat_ofNat_of_lt' (by show 48 + n < 256; omega)
theorem pu_dec (n : Nat) : n < 18446744073709551616 → Lib.parseUint10 0 (Lib.decDigits n) = .ok n := by
  induction n using Nat.strongRecOn with
  | _ n ih =>
    intro h
    by_cases c : n < 10
    · rw [Lib.decDigits_one c]
      simp only [Lib.parseUint10, fig_nat n c]
      rw [if_pos (by omega), if_neg (by omega), if_neg (by omega)]
      congr 1; omega
    · rw [Lib.decDigits, dif_neg c, pu_app _ _ _ _ (ih (n / 10) (by omega) (by omega))]
      simp only [Lib.parseUint10, fig_nat (n % 10) (by omega)]
      rw [if_pos (by omega), if_neg (by omega), if_neg (by omega)]
      congr 1; omega
theorem dec_digit (n : Nat) : ∀ c ∈ Lib.decDigits n, 48 ≤ c.toNat ∧ c.toNat ≤ 57 := by
  induction n using Nat.strongRecOn with
  | _ n ih =>
    intro c hc
    by_cases d : n < 10
    · rw [Lib.decDigits_one d] at hc
      obtain rfl := List.mem_singleton.1 hc
      rw [fig_nat n d]; omega
    · rw [Lib.decDigits, dif_neg d] at hc
      rcases List.mem_append.1 hc with hc | hc
      · exact ih (n / 10) (by omega) c hc
      · obtain rfl := List.mem_singleton.1 hc
        rw [fig_nat (n % 10) (by omega)]; omega
theorem dec_ne (n : Nat) : Lib.decDigits n ≠ [] := by
  intro e
  have h := Lib.decDigits_length n
  rw [e] at h
  have := Lib.nDigits_pos n
  simp at h
  omega
theorem dec_len (n : Nat) (h : n < 10000000000) : (Lib.decDigits n).length ≤ 10 := by
  rw [Lib.decDigits_length]
  have hb : ∀ (k u : Nat), u < 10 ^ (k + 1) → Lib.nDigits u ≤ k + 1 := by
    intro k
    induction k with
    | zero => intro u hu; rw [Lib.nDigits_small (by simpa using hu)]; omega
    | succ k ih =>
      intro u hu
      by_cases c : u < 10
      · rw [Lib.nDigits_small c]; omega
      · rw [Lib.nDigits_big c]
        have := ih (u / 10) (by rw [Nat.pow_succ] at hu; omega)
        omega
  exact hb 9 n (by simpa using h)
theorem atoi_dec (n : Nat) (h : n < 9223372036854775808) : Lib.atoiAll (Lib.decDigits n) = .ok (n : Int) := by
  cases e : Lib.decDigits n with
  | nil => exact absurd e (dec_ne n)
  | cons c r =>
    have hc := dec_digit n c (by rw [e]; simp)
    rw [Lib.atoiAll_plain c r (by omega) (by omega), ← e]
    unfold Lib.parseMag
    rw [if_neg (dec_ne n), pu_dec n (by omega)]
    simp only [Lib.signless]
    rw [if_neg (by omega)]
/-- The number that digits spell. -/
def dval (acc : Nat) (l : List UInt8) : Nat := l.foldl (fun a c => 10 * a + (c.toNat - 48)) acc
theorem dval_dec (n : Nat) : dval 0 (Lib.decDigits n) = n := by
  induction n using Nat.strongRecOn with
  | _ n ih =>
    by_cases c : n < 10
    · rw [Lib.decDigits_one c]
      simp only [dval, List.foldl_cons, List.foldl_nil, fig_nat n c]; omega
    · have h := ih (n / 10) (by omega)
      unfold dval at h ⊢
      rw [Lib.decDigits, dif_neg c, List.foldl_append, h]
      simp only [List.foldl_cons, List.foldl_nil, fig_nat (n % 10) (by omega)]; omega
/-- What ParseUint gives. -/
def puv (l : List UInt8) : Int × Bool := if dval 0 l ≤ 1000000000 ∧ Lib.decDigits (dval 0 l) = l then ((dval 0 l : Int), true) else (0, false)
theorem puv_of (n : Nat) (h : n ≤ 1000000000) : puv (Lib.decDigits n) = ((n : Int), true) := by
  unfold puv
  rw [dval_dec, if_pos ⟨h, rfl⟩]
theorem itoa_nat (n : Nat) : Lib.itoa (n : Int) = Lib.decDigits n := Lib.itoa_nonneg n
theorem data_back (s : ByteArray) : (⟨s.data.toList.toArray⟩ : ByteArray) = s := by cases s; simp
/-- A list cut at each c. -/
def cutGo (c : UInt8) : List UInt8 → List UInt8 → List (List UInt8)
  | cur, [] => [cur]
  | cur, b :: l => if b = c then cur :: cutGo c [] l else cutGo c (cur ++ [b]) l
theorem cut_free (c : UInt8) : ∀ (p cur : List UInt8), (∀ b ∈ p, b ≠ c) → cutGo c cur p = [cur ++ p]
  | [], cur, _ => by simp [cutGo]
  | b :: p, cur, h => by
    rw [cutGo, if_neg (h b (by simp)), cut_free c p (cur ++ [b]) (fun x hx => h x (by simp [hx]))]
    simp
theorem cut_at (c : UInt8) : ∀ (p cur r : List UInt8), (∀ b ∈ p, b ≠ c) → cutGo c cur (p ++ c :: r) = (cur ++ p) :: cutGo c [] r
  | [], cur, r, _ => by rw [List.nil_append, cutGo, if_pos rfl]; simp
  | b :: p, cur, r, h => by
    rw [List.cons_append, cutGo, if_neg (h b (by simp)), cut_at c p (cur ++ [b]) r (fun x hx => h x (by simp [hx]))]
    simp
theorem split_cut (c : UInt8) (n : Nat) : ∀ l : List UInt8, l.length ≤ n → Lib.split l [c] = cutGo c [] l := by
  induction n with
  | zero =>
    intro l hl
    have : l = [] := List.length_eq_zero_iff.1 (by omega)
    subst this
    unfold Lib.split
    rw [Lib.count_one]
    rfl
  | succ n ih =>
    intro l hl
    rcases Lib.index_spec l [c] with ⟨h, hno⟩ | ⟨i, h, hi, ho, _⟩
    · have hfree : ∀ b ∈ l, b ≠ c := by
        intro b hb e
        obtain ⟨k, hk, rfl⟩ := List.mem_iff_getElem.1 hb
        rw [Lib.index_one] at h
        exact Lib.indexByte_none h k (by rw [List.getElem?_eq_getElem hk, e])
      unfold Lib.split
      rw [Lib.count_miss h, cut_free c l [] hfree]
      rfl
    · rw [Lib.index_one] at h
      obtain ⟨h1, h2⟩ := Lib.indexByte_some h
      have hlt : i < l.length := by
        rcases Nat.lt_or_ge i l.length with z | z
        · exact z
        · rw [List.getElem?_eq_none z] at h1; cases h1
      have e : l = l.take i ++ c :: l.drop (i + 1) := by
        conv => lhs; rw [← List.take_append_drop i l]
        congr 1
        rw [List.drop_eq_getElem_cons hlt]
        congr 1
        rw [List.getElem?_eq_getElem hlt] at h1
        exact Option.some.inj h1
      have hfree : ∀ b ∈ l.take i, b ≠ c := by
        intro b hb e
        obtain ⟨k, hk, rfl⟩ := List.mem_iff_getElem.1 hb
        have hk2 : k < i := by simp only [List.length_take] at hk; omega
        refine h2 k hk2 ?_
        rw [List.getElem?_eq_getElem (by omega)]
        rw [List.getElem_take] at e
        rw [e]
      have hc := Lib.count_hit (s := l) (sub := [c]) (i := i) (by simp) (by rw [Lib.index_one]; exact h)
      have hd := ih (l.drop (i + 1)) (by rw [List.length_drop]; omega)
      unfold Lib.split at hd ⊢
      simp only [List.length_singleton] at hc
      rw [hc, Nat.add_comm 1, Lib.splitK, Lib.index_one, h]
      have hm : ¬ (((i : Nat) : Int) == -1) = true := fun z => by have := beq_iff_eq.1 z; omega
      rw [if_neg hm]
      simp only [Int.toNat_natCast, List.length_singleton, Nat.add_zero]
      rw [hd]
      conv => rhs; rw [e]
      rw [cut_at c _ [] _ hfree]
      simp
/-- The pieces of a text, as texts. -/
theorem splitB_cut (s : ByteArray) (c : UInt8) : (Lib.splitB ⟨#[c]⟩ 0 (Lib.countB s ⟨#[c]⟩) s).map (·.data.toList) = cutGo c [] s.data.toList := by
  rw [Lib.splitB_data]
  exact split_cut c _ s.data.toList (Nat.le_refl _)
theorem cut_words (c : UInt8) : ∀ (ws : List (List UInt8)) (w : List UInt8), (∀ b ∈ w, b ≠ c) → (∀ x ∈ ws, ∀ b ∈ x, b ≠ c) → cutGo c [] (w ++ ws.flatMap fun x => c :: x) = w :: ws
  | [], w, h, _ => by simpa using cut_free c w [] h
  | x :: ws, w, h, hs => by
    rw [List.flatMap_cons, List.cons_append, cut_at c w [] _ h, cut_words c ws x (hs x (by simp)) (fun y hy => hs y (by simp [hy]))]
    simp
/-- A byte that no line holds. -/
def bad (b : UInt8) : Bool := decide (b.toNat < 32 ∨ 126 < b.toNat)
theorem isSp_ok {b : UInt8} (h : bad b = false) : Lib.isSp b = decide (b.toNat = 32) := by
  have e : ∀ n : Nat, n < 256 → (b == UInt8.ofNat n) = decide (b.toNat = n) := by
    intro n hn
    by_cases c : b.toNat = n
    · have : b = UInt8.ofNat n := by apply UInt8.toNat_inj.1; rw [UInt8.toNat_ofNat_of_lt' (by exact hn)]; exact c
      rw [decide_eq_true c, this]; exact beq_self_eq_true _
    · have : b ≠ UInt8.ofNat n := by intro e2; apply c; rw [e2, UInt8.toNat_ofNat_of_lt' (by exact hn)]
      simp [c, this]
  have h' : ¬ (b.toNat < 32 ∨ 126 < b.toNat) := by simpa [bad] using h
  have e9 := e 9 (by omega); have e10 := e 10 (by omega); have e11 := e 11 (by omega); have e12 := e 12 (by omega); have e13 := e 13 (by omega); have e32 := e 32 (by omega)
  unfold Lib.isSp
  rw [show (9 : UInt8) = UInt8.ofNat 9 from rfl, show (10 : UInt8) = UInt8.ofNat 10 from rfl, show (11 : UInt8) = UInt8.ofNat 11 from rfl, show (12 : UInt8) = UInt8.ofNat 12 from rfl, show (13 : UInt8) = UInt8.ofNat 13 from rfl, show (32 : UInt8) = UInt8.ofNat 32 from rfl, e9, e10, e11, e12, e13, e32,
    decide_eq_false (show ¬ b.toNat = 9 by omega), decide_eq_false (show ¬ b.toNat = 10 by omega), decide_eq_false (show ¬ b.toNat = 11 by omega), decide_eq_false (show ¬ b.toNat = 12 by omega), decide_eq_false (show ¬ b.toNat = 13 by omega)]
  rfl
/-- The fields of a line, none where it is no line. -/
def spf (l : List UInt8) : Option (List (List UInt8)) := if 600 < l.length ∨ l.any bad = true then none else if 24 < (Lib.fields l).length then none else some (Lib.fields l)
/-- What both give. -/
def spr (l : List UInt8) : List ByteArray × Bool := match spf l with | some p => (p.map tx, true) | none => ([], false)
theorem fieldsGo_good : ∀ (l cur : List UInt8), (∀ b ∈ l, bad b = false) → (∀ b ∈ cur, bad b = false ∧ Lib.isSp b = false) → ∀ p ∈ Lib.fieldsGo cur l, p ≠ [] ∧ ∀ b ∈ p, bad b = false ∧ Lib.isSp b = false
  | [], cur, _, hc => by
    intro p hp
    cases cur with
    | nil => simp [Lib.fieldsGo] at hp
    | cons c r =>
      simp [Lib.fieldsGo] at hp
      subst hp
      exact ⟨by simp, hc⟩
  | b :: l, cur, hl, hc => by
    intro p hp
    have hb := hl b (by simp)
    have hl2 : ∀ b ∈ l, bad b = false := fun x hx => hl x (by simp [hx])
    cases hs : Lib.isSp b with
    | true =>
      cases cur with
      | nil => rw [Lib.fieldsGo_sp b l hs] at hp; exact fieldsGo_good l [] hl2 (by simp) p hp
      | cons c r =>
        rw [Lib.fieldsGo_end (c :: r) b l hs (by simp)] at hp
        rcases List.mem_cons.1 hp with e | hp
        · subst e; exact ⟨by simp, hc⟩
        · exact fieldsGo_good l [] hl2 (by simp) p hp
    | false =>
      rw [Lib.fieldsGo_more cur b l hs] at hp
      refine fieldsGo_good l (cur ++ [b]) hl2 ?_ p hp
      intro x hx
      rcases List.mem_append.1 hx with hx | hx
      · exact hc x hx
      · obtain rfl := List.mem_singleton.1 hx; exact ⟨hb, hs⟩
theorem fieldsGo_run : ∀ (p cur : List UInt8) (r : List UInt8), (∀ b ∈ p, Lib.isSp b = false) → Lib.fieldsGo cur (p ++ r) = Lib.fieldsGo (cur ++ p) r
  | [], cur, r, _ => by simp
  | b :: p, cur, r, h => by
    rw [List.cons_append, Lib.fieldsGo_more cur b _ (h b (by simp)), fieldsGo_run p (cur ++ [b]) r (fun x hx => h x (by simp [hx]))]
    simp
theorem sp32 : Lib.isSp 32 = true := by decide
theorem fields_join : ∀ (ps : List (List UInt8)), (∀ p ∈ ps, p ≠ [] ∧ ∀ b ∈ p, Lib.isSp b = false) → Lib.fields (ps.flatMap fun p => p ++ [32]) = ps
  | [], _ => by simp [Lib.fields, Lib.fieldsGo]
  | p :: ps, h => by
    have hp := h p (by simp)
    have ih := fields_join ps (fun q hq => h q (by simp [hq]))
    unfold Lib.fields at ih ⊢
    rw [List.flatMap_cons, List.append_assoc, fieldsGo_run p [] _ hp.2, List.nil_append, List.singleton_append, Lib.fieldsGo_end p 32 _ sp32 hp.1, ih]
def bad_int (n : Int) : Bool := decide (n < 32 ∨ 126 < n)
theorem bad_eq (b : UInt8) : bad b = bad_int (b.toNat : Int) := by
  unfold bad bad_int
  by_cases c : b.toNat < 32 ∨ 126 < b.toNat
  · rw [decide_eq_true c, decide_eq_true (by omega)]
  · rw [decide_eq_false c, decide_eq_false (by omega)]
theorem ext_tx (s : ByteArray) (i j : Nat) (h : j ≤ s.size) : s.extract i j = tx ((s.data.toList.drop i).take (j - i)) := by
  apply ByteArray.ext
  apply Array.toList_inj.1
  rw [ByteArray.data_extract]
  simp [tx]
theorem any_bad (l : List UInt8) : (l.map fun b => (b.toNat : Int)).any bad_int = l.any bad := by
  rw [List.any_map]
  congr 1
  funext b
  exact (bad_eq b).symm
/-- The fields so far, the field that is read. -/
def fin (l : List UInt8) (out : List (List UInt8)) (cur u : List UInt8) : Option (List ByteArray × Bool) :=
  some (if u.any bad = true then ([], false) else if 24 < (out ++ Lib.fieldsGo cur u).length then ([], false) else ((out ++ Lib.fieldsGo cur u).map tx, true))
theorem spf_loop (s : ByteArray) (hs : s.size ≤ 600) (u : List UInt8) : ∀ (k : Nat) (pre : List UInt8) (out : List (List UInt8)) (cur : List UInt8) (b : Nat),
    s.data.toList = pre ++ u → b ≤ pre.length → pre.drop b = cur → out.length ≤ pre.length → 3 * u.length + 10 ≤ k →
    spec_SplitFields.l0 k s (out.map tx) (b : Int) (pre.length : Int) = fin s.data.toList out cur u := by
  have hz := size_tl s
  induction u with
  | nil =>
    intro k pre out cur b e hb hc ho hk
    obtain ⟨k, rfl⟩ : ∃ m, k = m + 3 := ⟨k - 3, by simp at hk; omega⟩
    rw [List.append_nil] at e
    have hl : s.size = pre.length := by rw [hz, e]
    have hfin : ∀ (j : Nat) (o : List (List UInt8)) (x : Int), 1 ≤ j → spec_SplitFields.l0 j s (o.map tx) x ((pre.length : Int) + 1) = some (if 24 < o.length then ([], false) else (o.map tx, true)) := by
      intro j o x hj
      obtain ⟨j, rfl⟩ : ∃ m, j = m + 1 := ⟨j - 1, by omega⟩
      simp only [spec_SplitFields.l0]
      rw [if_neg (by omega)]
      by_cases c : 24 < o.length
      · rw [if_pos (by simp; omega), if_pos c]
      · rw [if_neg (by simp; omega), if_neg c]
    rw [show k + 3 = (k + 2) + 1 from rfl]
    simp only [spec_SplitFields.l0]
    rw [if_pos (by omega), if_neg (by omega)]
    simp only [spec_SplitFields.j1]
    try rw [if_neg Bool.false_ne_true]
    rw [if_neg (by omega)]
    simp only [spec_SplitFields.j2]
    try rw [if_neg Bool.false_ne_true]
    rw [w64 (n := (pre.length : Int) + 1) (by omega) (by omega)]
    unfold fin
    rw [List.any_nil, if_neg Bool.false_ne_true]
    by_cases c : b < pre.length
    · have hcur : cur ≠ [] := by rw [← hc]; intro z; have := congrArg List.length z; simp at this; omega
      rw [if_pos (by omega), if_pos (by omega), if_pos (by omega), if_pos (by omega), if_pos (by simp; omega)]
      have hx : s.extract ((b : Int)).toNat ((pre.length : Int)).toNat = tx cur := by
        rw [Int.toNat_natCast, Int.toNat_natCast, ext_tx s b pre.length (by omega), e, hc]
        congr 1
        rw [List.take_of_length_le]
        rw [← hc, List.length_drop]; omega
      have hm : out.map tx ++ [tx cur] = (out ++ [cur]).map tx := by simp
      rw [hx, hm, hfin _ _ _ (by simp at hk; omega)]
      have hg : Lib.fieldsGo cur [] = [cur] := by cases cur with
        | nil => exact absurd rfl hcur
        | cons x y => rfl
      rw [hg]
    · have hcur : cur = [] := by rw [← hc]; exact List.drop_eq_nil_of_le (by omega)
      rw [if_neg (by omega), hfin _ _ _ (by simp at hk; omega), hcur]
      have hg : Lib.fieldsGo [] [] = [] := rfl
      rw [hg, List.append_nil]
  | cons c u ih =>
    intro k pre out cur b e hb hc ho hk
    simp only [List.length_cons] at hk
    obtain ⟨k, rfl⟩ : ∃ m, k = m + 3 := ⟨k - 3, by omega⟩
    have hl : s.size = pre.length + (u.length + 1) := by rw [hz, e]; simp
    have hbt := bt_tx s pre c u e
    have e' : s.data.toList = (pre ++ [c]) ++ u := by rw [e]; simp
    have hlen : ((pre ++ [c]).length : Int) = (pre.length : Int) + 1 := by simp
    have hbad : ∀ (x : Bool), x = bad c → spec_SplitFields.j1 (k + 2) s (out.map tx) (b : Int) (pre.length : Int) x = fin s.data.toList out cur (c :: u) := by
      intro x hx
      subst hx
      simp only [spec_SplitFields.j1]
      cases hbc : bad c with
      | true =>
        rw [if_pos rfl]
        unfold fin
        rw [List.any_cons, hbc, Bool.true_or, if_pos rfl]
      | false =>
        have hsp := isSp_ok hbc
        rw [if_neg (by simp), if_pos (by omega), if_pos (by omega), hbt]
        simp only [spec_SplitFields.j2]
        rw [w64 (n := (pre.length : Int) + 1) (by omega) (by omega)]
        have hany : (c :: u).any bad = u.any bad := by rw [List.any_cons, hbc, Bool.false_or]
        by_cases c32 : c.toNat = 32
        · have hs1 : Lib.isSp c = true := by rw [hsp]; exact decide_eq_true c32
          rw [if_neg (by simp; omega)]
          by_cases d : b < pre.length
          · have hcur : cur ≠ [] := by rw [← hc]; intro z; have := congrArg List.length z; simp at this; omega
            rw [if_pos (by omega), if_pos (by omega), if_pos (by omega), if_pos (by omega), if_pos (by simp; omega)]
            have hx : s.extract ((b : Int)).toNat ((pre.length : Int)).toNat = tx cur := by
              rw [Int.toNat_natCast, Int.toNat_natCast, ext_tx s b pre.length (by omega), e]
              congr 1
              rw [List.drop_append_of_le_length hb, hc]
              have h3 : cur.length = pre.length - b := by rw [← hc, List.length_drop]
              rw [← h3, List.take_left']
              rfl
            have hm : out.map tx ++ [tx cur] = (out ++ [cur]).map tx := by simp
            rw [hx, hm]
            have i2 := ih k (pre ++ [c]) (out ++ [cur]) [] (pre.length + 1) e' (by simp) (by simp) (by simp; omega) (by omega)
            rw [hlen, show (((pre.length + 1 : Nat)) : Int) = (pre.length : Int) + 1 by omega] at i2
            rw [i2]
            unfold fin
            rw [hany, Lib.fieldsGo_end cur c u hs1 hcur, List.append_assoc, List.singleton_append]
          · have hcur : cur = [] := by rw [← hc]; exact List.drop_eq_nil_of_le (by omega)
            rw [if_neg (by omega)]
            have i2 := ih k (pre ++ [c]) out [] (pre.length + 1) e' (by simp) (by simp) (by simp; omega) (by omega)
            rw [hlen, show (((pre.length + 1 : Nat)) : Int) = (pre.length : Int) + 1 by omega] at i2
            rw [i2]
            unfold fin
            rw [hany, hcur, Lib.fieldsGo_sp c u hs1]
        · have hs1 : Lib.isSp c = false := by rw [hsp]; exact decide_eq_false c32
          rw [if_pos (by simp; omega)]
          have i2 := ih k (pre ++ [c]) out (cur ++ [c]) b e' (by simp; omega) (by rw [List.drop_append_of_le_length hb, hc]) (by simp; omega) (by omega)
          rw [hlen] at i2
          rw [i2]
          unfold fin
          rw [hany, Lib.fieldsGo_more cur c u hs1]
    rw [show k + 3 = (k + 2) + 1 from rfl]
    simp only [spec_SplitFields.l0]
    rw [if_pos (by omega), if_pos (by omega), if_pos (by omega), hbt]
    by_cases d : c.toNat < 32
    · rw [if_pos (by omega)]
      exact hbad true (by unfold bad; rw [decide_eq_true (Or.inl d)])
    · rw [if_neg (by omega)]
      refine hbad _ ?_
      unfold bad
      by_cases d2 : 126 < c.toNat
      · rw [decide_eq_true (show c.toNat < 32 ∨ 126 < c.toNat from Or.inr d2), decide_eq_true (show (c.toNat : Int) > 126 by omega)]
      · rw [decide_eq_false (show ¬ (c.toNat < 32 ∨ 126 < c.toNat) by omega), decide_eq_false (show ¬ ((c.toNat : Int) > 126) by omega)]
theorem sspl (s : ByteArray) (k : Nat) (hk : 2000 ≤ k) : spec_SplitFields.f k s = some (spr s.data.toList) := by
  have hz := size_tl s
  unfold spec_SplitFields.f spr spf
  simp only [Option.bind_some]
  by_cases c : (s.size : Int) > 600
  · rw [if_pos c, if_pos (Or.inl (by omega))]
  · rw [if_neg c]
    have h := spf_loop s (by omega) s.data.toList k [] [] [] 0 (by simp) (by simp) (by simp) (by simp) (by omega)
    have e : ((([] : List UInt8).length : Nat) : Int) = 0 := rfl
    have e2 : ((0 : Nat) : Int) = 0 := rfl
    have e3 : ([] : List (List UInt8)).map tx = [] := rfl
    rw [e, e2, e3] at h
    rw [h]
    unfold fin
    rw [List.nil_append]
    by_cases d : s.data.toList.any bad = true
    · rw [if_pos d, if_pos (Or.inr d)]
    · have hn : ¬ (600 < s.data.toList.length ∨ s.data.toList.any bad = true) := fun z => z.elim (fun y => by omega) d
      rw [if_neg d, if_neg hn]
      have hf : Lib.fieldsGo [] s.data.toList = Lib.fields s.data.toList := rfl
      rw [hf]
      by_cases q : 24 < (Lib.fields s.data.toList).length
      · rw [if_pos q, if_pos q]
      · rw [if_neg q, if_neg q]
theorem ibad : impl_SplitFields.bad = bad_int := rfl
theorem ispl (s : ByteArray) : impl_SplitFields.f s = some (spr s.data.toList) := by
  have hz := size_tl s
  have hb : (bytesOf s).any impl_SplitFields.bad = s.data.toList.any bad := by rw [ibad]; exact any_bad _
  unfold impl_SplitFields.f spr spf
  rw [hb]
  by_cases c : 600 < s.size
  · rw [if_pos c, if_pos (Or.inl (by omega))]
  · rw [if_neg c]
    by_cases d : s.data.toList.any bad = true
    · rw [if_pos d, if_pos (Or.inr d)]
    · have hn : ¬ (600 < s.data.toList.length ∨ s.data.toList.any bad = true) := fun z => z.elim (fun y => by omega) d
      rw [if_neg d, if_neg hn]
      by_cases q : 24 < (Lib.fields s.data.toList).length
      · rw [if_pos q, if_pos q]
      · rw [if_neg q, if_neg q]; rfl
theorem itoa_no32 (n : Int) : ∀ b ∈ Lib.itoa n, b ≠ 32 := by
  intro b hb
  unfold Lib.itoa at hb
  split at hb
  · rcases List.mem_cons.1 hb with e | hb
    · subst e; decide
    · have := dec_digit _ b hb
      intro e; subst e; simp at this
  · have := dec_digit _ b hb
    intro e; subst e; simp at this
theorem kw_no32 (c : Int) : ∀ b ∈ kw c, b ≠ 32 := by
  unfold kw
  repeat' split
  all_goals decide
theorem canon_cut (c v n o a b : Int) : cutGo 32 [] (canon c v n o a b) = kw c :: (nums c v n o a b).map Lib.itoa := by
  unfold canon
  have e : (nums c v n o a b).flatMap spn = ((nums c v n o a b).map Lib.itoa).flatMap (fun x => 32 :: x) := by
    rw [List.flatMap_map]; rfl
  rw [e]
  refine cut_words 32 _ _ (kw_no32 c) ?_
  intro x hx b hb
  obtain ⟨n, -, rfl⟩ := List.mem_map.1 hx
  exact itoa_no32 n b hb
theorem cut_len (c : UInt8) : ∀ (l cur : List UInt8), (cutGo c cur l).length = l.count c + 1
  | [], cur => by simp [cutGo]
  | b :: l, cur => by
    unfold cutGo
    by_cases h : b = c
    · subst h; rw [if_pos rfl, List.length_cons, cut_len b l []]; simp
    · rw [if_neg h, cut_len c l, List.count_cons_of_ne h]
theorem join_words (ps : List (List UInt8)) (w : List UInt8) : Lib.join (w :: ps) [32] = w ++ ps.flatMap fun x => 32 :: x := by
  rw [Lib.join_cons]
  unfold Lib.joinTail
  rw [List.flatMap_def]
  rfl
/-- A statement that a word and its numbers spell. -/
def mkS (c z0 z1 z2 z3 : Int) : Int × Int × Int × Int × Int × Int :=
  if c = 1 then (1, z0, 0, z1, z2, z3) else if c = 2 then (2, z0, z1, 0, 0, 0) else if c = 3 then (3, 0, 0, z0, z1, z2) else if c = 4 then (4, 0, 0, z0, z1, z2) else if c = 5 then (5, 0, z0, 0, 0, 0) else (c, 0, 0, 0, 0, 0)
/-- It is valid, and its text is T. -/
def good (T : List UInt8) (x : Int × Int × Int × Int × Int × Int) : Bool := sok x.1 x.2.1 x.2.2.1 x.2.2.2.1 x.2.2.2.2.1 x.2.2.2.2.2 && decide (canon x.1 x.2.1 x.2.2.1 x.2.2.2.1 x.2.2.2.2.1 x.2.2.2.2.2 = T)
theorem itoa_small (n : Int) (h0 : -8 ≤ n) (h1 : n ≤ 999) : Lib.atoiAll (Lib.itoa n) = .ok n := by
  by_cases h : 0 ≤ n
  · obtain ⟨m, rfl⟩ : ∃ m : Nat, n = m := ⟨n.toNat, by omega⟩
    rw [itoa_nat]
    exact atoi_dec m (by omega)
  · have hm : n.natAbs < 10 := by omega
    unfold Lib.itoa
    rw [if_pos (by omega), Lib.atoiAll_minus, Lib.decDigits_one hm]
    rcases (show n = -1 ∨ n = -2 ∨ n = -3 ∨ n = -4 ∨ n = -5 ∨ n = -6 ∨ n = -7 ∨ n = -8 by omega) with rfl | rfl | rfl | rfl | rfl | rfl | rfl | rfl <;> rfl
theorem sok_mk {c v n o a b : Int} (h : sok c v n o a b = true) : 1 ≤ c ∧ c ≤ 6 := by have := sok_kind h; omega
theorem kw_inj {c d : Int} (hc : 1 ≤ c ∧ c ≤ 6) (hd : 1 ≤ d ∧ d ≤ 6) (h : kw c = kw d) : c = d := by
  rcases (show c = 1 ∨ c = 2 ∨ c = 3 ∨ c = 4 ∨ c = 5 ∨ c = 6 by omega) with rfl | rfl | rfl | rfl | rfl | rfl <;>
  rcases (show d = 1 ∨ d = 2 ∨ d = 3 ∨ d = 4 ∨ d = 5 ∨ d = 6 by omega) with rfl | rfl | rfl | rfl | rfl | rfl <;>
  first | rfl | (exact absurd h (by decide))
theorem mkS_kind (c z0 z1 z2 z3 : Int) : (mkS c z0 z1 z2 z3).1 = c := by
  unfold mkS
  split; · simp_all
  split; · simp_all
  split; · simp_all
  split; · simp_all
  split; · simp_all
  rfl
/-- The pieces of a text that a statement has. -/
theorem good_cut {T : List UInt8} {x : Int × Int × Int × Int × Int × Int} (h : good T x = true) : (1 ≤ x.1 ∧ x.1 ≤ 6) ∧ cutGo 32 [] T = kw x.1 :: (nums x.1 x.2.1 x.2.2.1 x.2.2.2.1 x.2.2.2.2.1 x.2.2.2.2.2).map Lib.itoa ∧ ∀ n ∈ nums x.1 x.2.1 x.2.2.1 x.2.2.2.1 x.2.2.2.2.1 x.2.2.2.2.2, -8 ≤ n ∧ n ≤ 999 := by
  unfold good at h
  rw [Bool.and_eq_true, decide_eq_true_eq] at h
  refine ⟨sok_mk h.1, ?_, nums_small h.1⟩
  rw [← h.2]
  exact canon_cut _ _ _ _ _ _
theorem good_kind {T : List UInt8} {x y : Int × Int × Int × Int × Int × Int} (h : good T x = true) (k : good T y = true) : x.1 = y.1 := by
  have h1 := good_cut h
  have h2 := good_cut k
  have e := h1.2.1.symm.trans h2.2.1
  exact kw_inj h1.1 h2.1 (List.cons.inj e).1
/-- What a parse gives of a statement. -/
def ans (x : Int × Int × Int × Int × Int × Int) : Int × Int × Int × Int × Int × Int × Bool := (x.1, x.2.1, x.2.2.1, x.2.2.2.1, x.2.2.2.2.1, x.2.2.2.2.2, true)
theorem l04_any (s : ByteArray) (sg : Int) (u : List UInt8) : ∀ (k : Nat) (pre : List UInt8) (acc : Int), s.data.toList = pre ++ u → s.size ≤ 4 → u.length < k → ∃ y, spec_l04Number.l0 k s sg acc (pre.length : Int) = some y := by
  have hz := size_tl s
  induction u with
  | nil =>
    intro k pre acc e hs hk
    obtain ⟨k, rfl⟩ : ∃ m, k = m + 1 := ⟨k - 1, by omega⟩
    rw [List.append_nil] at e
    have hl : s.size = pre.length := by rw [hz, e]
    simp only [spec_l04Number.l0]
    rw [if_neg (by omega)]
    exact ⟨_, rfl⟩
  | cons c u ih =>
    intro k pre acc e hs hk
    simp only [List.length_cons] at hk
    obtain ⟨k, rfl⟩ : ∃ m, k = m + 1 := ⟨k - 1, by omega⟩
    have hl : s.size = pre.length + (u.length + 1) := by rw [hz, e]; simp
    have e' : s.data.toList = (pre ++ [c]) ++ u := by rw [e]; simp
    have hlen : ((pre ++ [c]).length : Int) = (pre.length : Int) + 1 := by simp
    simp only [spec_l04Number.l0]
    rw [if_pos (by omega), if_pos (by omega), in_eq]
    simp only [Option.bind_some]
    rw [w64 (n := (pre.length : Int) + 1) (by omega) (by omega), ← hlen]
    by_cases d : decide (48 ≤ wrap64 (bt s (pre.length : Int)) ∧ wrap64 (bt s (pre.length : Int)) ≤ 57) = true
    · rw [if_pos d]; exact ih k (pre ++ [c]) _ e' hs (by omega)
    · rw [if_neg d]; exact ⟨_, rfl⟩
theorem l04_digits (s : ByteArray) (sg : Int) (hsg : sg = 1 ∨ sg = -1) (u : List UInt8) : ∀ (k : Nat) (pre : List UInt8) (acc : Nat), s.data.toList = pre ++ u → s.size ≤ 4 → (∀ c ∈ u, 48 ≤ c.toNat ∧ c.toNat ≤ 57) → acc < 10 ^ pre.length → u.length < k → spec_l04Number.l0 k s sg (acc : Int) (pre.length : Int) = some (sg * ((dval acc u : Nat) : Int)) := by
  have hz := size_tl s
  induction u with
  | nil =>
    intro k pre acc e hs hd ha hk
    obtain ⟨k, rfl⟩ : ∃ m, k = m + 1 := ⟨k - 1, by omega⟩
    rw [List.append_nil] at e
    have hl : s.size = pre.length := by rw [hz, e]
    have h4 : 10 ^ pre.length ≤ 10 ^ 4 := Nat.pow_le_pow_right (by omega) (by omega)
    simp only [spec_l04Number.l0]
    rw [if_neg (by omega)]
    have ed : dval acc [] = acc := rfl
    rw [ed]
    rcases hsg with rfl | rfl
    · rw [w64 (by omega) (by omega)]
    · rw [w64 (by omega) (by omega)]
  | cons c u ih =>
    intro k pre acc e hs hd ha hk
    simp only [List.length_cons] at hk
    obtain ⟨k, rfl⟩ : ∃ m, k = m + 1 := ⟨k - 1, by omega⟩
    have hl : s.size = pre.length + (u.length + 1) := by rw [hz, e]; simp
    have e' : s.data.toList = (pre ++ [c]) ++ u := by rw [e]; simp
    have hlen : ((pre ++ [c]).length : Int) = (pre.length : Int) + 1 := by simp
    have h4 : 10 ^ pre.length ≤ 10 ^ 4 := Nat.pow_le_pow_right (by omega) (by omega)
    have hc := hd c (by simp)
    have hbt := bt_tx s pre c u e
    have hp : 10 ^ (pre ++ [c]).length = 10 ^ pre.length * 10 := by rw [List.length_append, List.length_singleton, Nat.pow_succ]
    have i2 := ih k (pre ++ [c]) (10 * acc + (c.toNat - 48)) e' hs (fun x hx => hd x (by simp [hx])) (by rw [hp]; omega) (by omega)
    simp only [spec_l04Number.l0]
    rw [if_pos (by omega), if_pos (by omega), hbt, w64 (n := (c.toNat : Int)) (by omega) (by omega), in_eq]
    simp only [Option.bind_some]
    rw [if_pos (decide_eq_true (by omega)), w64 (n := (pre.length : Int) + 1) (by omega) (by omega), ← hlen, w64 (n := 10 * (acc : Int)) (by omega) (by omega), w64 (n := 10 * (acc : Int) + (c.toNat : Int)) (by omega) (by omega), w64 (n := 10 * (acc : Int) + (c.toNat : Int) - 48) (by omega) (by omega), show 10 * (acc : Int) + (c.toNat : Int) - 48 = ((10 * acc + (c.toNat - 48) : Nat) : Int) by omega, i2]
    rfl
theorem l04_some (s : ByteArray) (k : Nat) (hk : 20 ≤ k) : ∃ y, spec_l04Number.f k s = some y := by
  have hj : ∀ (x : ByteArray) (sg : Int), ∃ y, spec_l04Number.j1 (k - 1) x sg 0 = some y := by
    intro x sg
    obtain ⟨k, rfl⟩ : ∃ m, k = m + 3 := ⟨k - 3, by omega⟩
    rw [show k + 3 - 1 = (k + 1) + 1 from rfl]
    simp only [spec_l04Number.j1, spec_l04Number.j2]
    by_cases h : (x.size : Int) = 0
    · rw [if_pos h]; exact ⟨_, rfl⟩
    · rw [if_neg h]
      by_cases h2 : (x.size : Int) > 4
      · rw [if_pos (decide_eq_true h2)]; exact ⟨_, rfl⟩
      · rw [if_neg (by simpa using h2)]
        exact l04_any x sg x.data.toList k [] 0 (by simp) (by omega) (by rw [← size_tl]; omega)
  unfold spec_l04Number.f
  obtain ⟨k, rfl⟩ : ∃ m, k = m + 1 := ⟨k - 1, by omega⟩
  rw [show k + 1 - 1 = k from rfl] at hj
  simp only [spec_l04Number.j0]
  by_cases h : (s.size : Int) > 0
  · rw [if_pos h, if_pos (by omega)]
    by_cases h2 : (bt s 0 == 45) = true
    · rw [if_pos h2, if_pos (by omega)]; exact hj _ _
    · rw [if_neg h2]; exact hj _ _
  · rw [if_neg h, if_neg Bool.false_ne_true]; exact hj _ _
theorem l04_itoa (n : Int) (h0 : -8 ≤ n) (h1 : n ≤ 999) (k : Nat) (hk : 20 ≤ k) : spec_l04Number.f k (tx (Lib.itoa n)) = some n := by
  have hj : ∀ (m : Nat) (sg : Int), (sg = 1 ∨ sg = -1) → m < 1000 → spec_l04Number.j1 (k - 1) (tx (Lib.decDigits m)) sg 0 = some (sg * (m : Int)) := by
    intro m sg hsg hm
    obtain ⟨k, rfl⟩ : ∃ q, k = q + 3 := ⟨k - 3, by omega⟩
    have hl : (Lib.decDigits m).length ≤ 3 := by
      rw [Lib.decDigits_length]; exact nd_le 2 m (by show m < 10 ^ 3; omega)
    have hne : (Lib.decDigits m).length ≠ 0 := fun e => dec_ne m (List.length_eq_zero_iff.1 e)
    rw [show k + 3 - 1 = (k + 1) + 1 from rfl]
    simp only [spec_l04Number.j1, spec_l04Number.j2]
    rw [if_neg (by rw [tx_size]; omega), if_neg (by rw [tx_size]; simp; omega)]
    have h := l04_digits (tx (Lib.decDigits m)) sg hsg (Lib.decDigits m) k [] 0 rfl (by rw [tx_size]; omega) (dec_digit m) (by simp) (by omega)
    rw [dval_dec] at h
    exact h
  unfold spec_l04Number.f
  obtain ⟨k, rfl⟩ : ∃ m, k = m + 1 := ⟨k - 1, by omega⟩
  rw [show k + 1 - 1 = k from rfl] at hj
  simp only [spec_l04Number.j0]
  by_cases hn : 0 ≤ n
  · obtain ⟨m, rfl⟩ : ∃ m : Nat, n = m := ⟨n.toNat, by omega⟩
    rw [itoa_nat]
    have h := hj m 1 (Or.inl rfl) (by omega)
    cases e : Lib.decDigits m with
    | nil => exact absurd e (dec_ne m)
    | cons c r =>
      have hc := dec_digit m c (by rw [e]; simp)
      have hb := bt_tx (tx (c :: r)) [] c r rfl
      have hb0 : bt (tx (c :: r)) 0 = (c.toNat : Int) := hb
      rw [e] at h
      have hnb : ((c.toNat : Int) == 45) = false := beq_eq_false_iff_ne.mpr (by omega)
      rw [if_pos (by rw [tx_size]; simp), if_pos (by rw [tx_size]; simp), hb0, hnb, if_neg Bool.false_ne_true, h]
      congr 1; omega
  · have h := hj n.natAbs (-1) (Or.inr rfl) (by omega)
    have e : Lib.itoa n = 45 :: Lib.decDigits n.natAbs := by unfold Lib.itoa; rw [if_pos (by omega)]
    rw [e]
    have hb0 : bt (tx (45 :: Lib.decDigits n.natAbs)) 0 = 45 := bt_tx (tx (45 :: Lib.decDigits n.natAbs)) [] 45 _ rfl
    have hx : (tx (45 :: Lib.decDigits n.natAbs)).extract 1 (tx (45 :: Lib.decDigits n.natAbs)).size = tx (Lib.decDigits n.natAbs) := by
      rw [ext_tx _ _ _ (Nat.le_refl _), tx_list, tx_size]
      congr 1
      rw [List.take_of_length_le]
      · rfl
      · simp
    rw [if_pos (by rw [tx_size]; simp), if_pos (by rw [tx_size]; simp), hb0, if_pos (by simp), if_pos (by rw [tx_size]; simp; omega), hx, h]
    congr 1; omega
/-- The number that the reference reads in a word. -/
def ln (w : ByteArray) : Int := (spec_l04Number.f 20 w).getD 0
theorem ln_eq (w : ByteArray) (k : Nat) (hk : 20 ≤ k) : spec_l04Number.f k w = some (ln w) := by
  obtain ⟨y, hy⟩ := l04_some w 20 (Nat.le_refl _)
  have h : ∀ j, spec_l04Number.f (20 + j) w = some y := by
    intro j
    induction j with
    | zero => exact hy
    | succ j ih => exact spec_l04Number.mono w (20 + j) y ih
  have e : ln w = y := by unfold ln; rw [hy]; rfl
  rw [e, show k = 20 + (k - 20) by omega]
  exact h _
theorem ln_itoa (n : Int) (h0 : -8 ≤ n) (h1 : n ≤ 999) : ln (tx (Lib.itoa n)) = n := by
  have h := ln_eq (tx (Lib.itoa n)) 20 (Nat.le_refl _)
  rw [l04_itoa n h0 h1 20 (Nat.le_refl _)] at h
  exact (Option.some.inj h).symm
theorem rdOf_at (pre : List ByteArray) (w : ByteArray) (u : List ByteArray) : rdOf ByteArray.empty (pre ++ w :: u) (pre.length : Int) = w := by
  unfold Go.Proofs.YtcpmkcidehhbiaaDoorW.PrintWords.rdOf
  simp [List.getD]
theorem l0_tells (ps : List ByteArray) (hl : ps.length ≤ 5) (hz : ∀ w ∈ ps, w.size ≤ 600) (u : List ByteArray) : ∀ (m : Nat) (pre : List ByteArray) (x : List UInt8) (ys : List Int), 20 ≤ m → ps = pre ++ u → x.length ≤ 700 * pre.length → ys.length ≤ pre.length →
    spec_ParseStmt.l0 (m + u.length + 1) ps (tx x) ys (pre.length : Int) = spec_ParseStmt.l1 m (tx (x ++ u.flatMap fun w => 32 :: w.data.toList)) (ys ++ u.map ln ++ [0, 0, 0, 0]) 1 := by
  induction u with
  | nil =>
    intro m pre x ys hm e hx hy
    rw [List.append_nil] at e
    simp only [spec_ParseStmt.l0, List.length_nil, Nat.add_zero]
    rw [if_neg (by rw [e]; omega)]
    simp only [Option.bind_some]
    rw [if_pos (by rw [← e] at hy; simp; omega)]
    simp
  | cons w u ih =>
    intro m pre x ys hm e hx hy
    have hlen : ps.length = pre.length + (u.length + 1) := by rw [e]; simp
    have hw := hz w (by rw [e]; simp)
    have hs := size_tl w
    have i2 := ih m (pre ++ [w]) (x ++ 32 :: w.data.toList) (ys ++ [ln w]) hm (by rw [e]; simp) (by rw [List.length_append, List.length_append, List.length_cons, List.length_singleton]; omega) (by simp; omega)
    rw [List.length_append, List.length_singleton] at i2
    have hc : (tx x ++ (⟨#[32]⟩ : ByteArray)) ++ w = tx (x ++ 32 :: w.data.toList) := by
      have e1 : (⟨#[32]⟩ : ByteArray) = tx [32] := rfl
      conv => lhs; rw [e1, tx_app, ← tx_back w, tx_app]
      simp
    have hcs : (tx x ++ (⟨#[32]⟩ : ByteArray)).size = x.length + 1 := by
      have e1 : (⟨#[32]⟩ : ByteArray) = tx [32] := rfl
      rw [e1, tx_app, tx_size]; simp
    rw [show m + (w :: u).length + 1 = (m + u.length + 1) + 1 by simp; omega]
    have hq0 : 20 ≤ m + u.length + 1 := by omega
    generalize m + u.length + 1 = q at i2 hq0 ⊢
    simp only [spec_ParseStmt.l0]
    have hr : rdOf ByteArray.empty ps (pre.length : Int) = w := by rw [e]; exact rdOf_at pre w u
    rw [if_pos (by omega), if_pos (by rw [tx_size]; omega), if_pos (by omega), hr, if_pos (by rw [hcs]; omega), ln_eq w _ (by omega)]
    simp only [Option.bind_some]
    rw [if_pos (by omega), hc, w64 (n := (pre.length : Int) + 1) (by omega) (by omega), show (pre.length : Int) + 1 = ((pre.length + 1 : Nat) : Int) by omega, i2]
    simp
theorem j4_tells (s : ByteArray) (zs : List Int) (d c v n o a b : Int) (hd : 1 ≤ d ∧ d ≤ 6) (m : Nat) (hm : 100 ≤ m) :
    spec_ParseStmt.j4 (m + 1) s zs d c v n o a b = if good s.data.toList (c, v, n, o, a, b) = true then some (ans (c, v, n, o, a, b)) else spec_ParseStmt.l1 m s zs (d + 1) := by
  simp only [spec_ParseStmt.j4]
  rw [sstmt c v n o a b m (by omega), sformat c v n o a b m (by omega), w64 (by omega) (by omega)]
  simp only [Option.bind_some]
  unfold good
  by_cases h : sok c v n o a b = true
  · simp only [h, if_true, Bool.true_and, tl_eq, tx_list, decide_eq_true_eq, ans]
  · simp [h]
theorem l1_round (s : ByteArray) (z0 z1 z2 z3 : Int) (r : List Int) (c : Int) (hc : 1 ≤ c ∧ c ≤ 6) (m : Nat) (hm : 100 ≤ m) :
    spec_ParseStmt.l1 (m + 3) s (z0 :: z1 :: z2 :: z3 :: r) c = if good s.data.toList (mkS c z0 z1 z2 z3) = true then some (ans (mkS c z0 z1 z2 z3)) else spec_ParseStmt.l1 m s (z0 :: z1 :: z2 :: z3 :: r) (c + 1) := by
  have e0 : rd (z0 :: z1 :: z2 :: z3 :: r) 0 = z0 := rfl
  have e1 : rd (z0 :: z1 :: z2 :: z3 :: r) 1 = z1 := rfl
  have e2 : rd (z0 :: z1 :: z2 :: z3 :: r) 2 = z2 := rfl
  have e3 : rd (z0 :: z1 :: z2 :: z3 :: r) 3 = z3 := rfl
  have hl : ((z0 :: z1 :: z2 :: z3 :: r).length : Int) = (r.length : Int) + 4 := by simp; omega
  rw [show m + 3 = (m + 2) + 1 from rfl]
  simp only [spec_ParseStmt.l1]
  rw [if_pos hc.2, if_pos (by omega), if_pos (by omega), if_pos (by omega), if_pos (by omega), e0, e1, e2, e3]
  have hj := j4_tells s (z0 :: z1 :: z2 :: z3 :: r) c
  rcases (show c = 1 ∨ c = 2 ∨ c = 3 ∨ c = 4 ∨ c = 5 ∨ c = 6 by omega) with rfl | rfl | rfl | rfl | rfl | rfl <;>
    simp [spec_l04Plain.f, spec_ParseStmt.j3, mkS, e0, e1, e2, hj _ _ _ _ _ _ (by omega) m hm] <;> (try first | rw [if_pos (by omega), if_pos (by omega), if_pos (by omega)] | rw [if_pos (by omega)] | (intro hh; omega))
/-- What the reference's parse gives of a text and numbers. -/
def sres (T : List UInt8) (z0 z1 z2 z3 : Int) : Int × Int × Int × Int × Int × Int × Bool :=
  if good T (mkS 1 z0 z1 z2 z3) = true then ans (mkS 1 z0 z1 z2 z3) else if good T (mkS 2 z0 z1 z2 z3) = true then ans (mkS 2 z0 z1 z2 z3) else if good T (mkS 3 z0 z1 z2 z3) = true then ans (mkS 3 z0 z1 z2 z3) else if good T (mkS 4 z0 z1 z2 z3) = true then ans (mkS 4 z0 z1 z2 z3) else if good T (mkS 5 z0 z1 z2 z3) = true then ans (mkS 5 z0 z1 z2 z3) else if good T (mkS 6 z0 z1 z2 z3) = true then ans (mkS 6 z0 z1 z2 z3) else (0, 0, 0, 0, 0, 0, false)
theorem l1_tells (s : ByteArray) (z0 z1 z2 z3 : Int) (r : List Int) (m : Nat) (hm : 100 ≤ m) : spec_ParseStmt.l1 (m + 19) s (z0 :: z1 :: z2 :: z3 :: r) 1 = some (sres s.data.toList z0 z1 z2 z3) := by
  have h := fun c hc q hq => l1_round s z0 z1 z2 z3 r c hc q hq
  rw [show m + 19 = m + 16 + 3 from rfl, h 1 (by omega) (m + 16) (by omega), show m + 16 = m + 13 + 3 from rfl, show (1 : Int) + 1 = 2 from rfl, h 2 (by omega) (m + 13) (by omega), show m + 13 = m + 10 + 3 from rfl, show (2 : Int) + 1 = 3 from rfl, h 3 (by omega) (m + 10) (by omega), show m + 10 = m + 7 + 3 from rfl, show (3 : Int) + 1 = 4 from rfl, h 4 (by omega) (m + 7) (by omega), show m + 7 = m + 4 + 3 from rfl, show (4 : Int) + 1 = 5 from rfl, h 5 (by omega) (m + 4) (by omega), show m + 4 = m + 1 + 3 from rfl, show (5 : Int) + 1 = 6 from rfl, h 6 (by omega) (m + 1) (by omega), show (6 : Int) + 1 = 7 from rfl]
  have h7 : spec_ParseStmt.l1 (m + 1) s (z0 :: z1 :: z2 :: z3 :: r) 7 = some (0, 0, 0, 0, 0, 0, false) := by
    simp only [spec_ParseStmt.l1]
    rw [if_neg (by omega)]
  rw [h7]
  unfold sres
  repeat' split
  all_goals rfl
theorem sres_good {T : List UInt8} {c z0 z1 z2 z3 : Int} (h : good T (mkS c z0 z1 z2 z3) = true) : sres T z0 z1 z2 z3 = ans (mkS c z0 z1 z2 z3) := by
  have hk : ∀ d, good T (mkS d z0 z1 z2 z3) = true → d = c := fun d hd => by
    have := good_kind hd h
    rwa [mkS_kind, mkS_kind] at this
  have hc := (good_cut h).1
  rw [mkS_kind] at hc
  unfold sres
  rcases (show c = 1 ∨ c = 2 ∨ c = 3 ∨ c = 4 ∨ c = 5 ∨ c = 6 by omega) with rfl | rfl | rfl | rfl | rfl | rfl
  · rw [if_pos h]
  · rw [if_neg (fun z => absurd (hk _ z) (by omega)), if_pos h]
  · rw [if_neg (fun z => absurd (hk _ z) (by omega)), if_neg (fun z => absurd (hk _ z) (by omega)), if_pos h]
  · rw [if_neg (fun z => absurd (hk _ z) (by omega)), if_neg (fun z => absurd (hk _ z) (by omega)), if_neg (fun z => absurd (hk _ z) (by omega)), if_pos h]
  · rw [if_neg (fun z => absurd (hk _ z) (by omega)), if_neg (fun z => absurd (hk _ z) (by omega)), if_neg (fun z => absurd (hk _ z) (by omega)), if_neg (fun z => absurd (hk _ z) (by omega)), if_pos h]
  · rw [if_neg (fun z => absurd (hk _ z) (by omega)), if_neg (fun z => absurd (hk _ z) (by omega)), if_neg (fun z => absurd (hk _ z) (by omega)), if_neg (fun z => absurd (hk _ z) (by omega)), if_neg (fun z => absurd (hk _ z) (by omega)), if_pos h]
theorem sres_none {T : List UInt8} {z0 z1 z2 z3 : Int} (h : ∀ c, good T (mkS c z0 z1 z2 z3) = false) : sres T z0 z1 z2 z3 = (0, 0, 0, 0, 0, 0, false) := by
  unfold sres
  simp [h]
/-- The number behind the j-th word. -/
def zat (s : ByteArray) (j : Nat) : Int := impl_parseStmt.atv ((impl_parseStmt.wsOf s).getD j ByteArray.empty)
theorem fill_mk (ws : List ByteArray) (K : Int) : impl_parseStmt.fill ws (impl_parseStmt.offs1 K ++ impl_parseStmt.offs2 K ++ impl_parseStmt.offs3 K) 0 [K, 0, 0, 0, 0, 0] = [(mkS K (impl_parseStmt.atv (ws.getD 1 ByteArray.empty)) (impl_parseStmt.atv (ws.getD 2 ByteArray.empty)) (impl_parseStmt.atv (ws.getD 3 ByteArray.empty)) (impl_parseStmt.atv (ws.getD 4 ByteArray.empty))).1, (mkS K (impl_parseStmt.atv (ws.getD 1 ByteArray.empty)) (impl_parseStmt.atv (ws.getD 2 ByteArray.empty)) (impl_parseStmt.atv (ws.getD 3 ByteArray.empty)) (impl_parseStmt.atv (ws.getD 4 ByteArray.empty))).2.1, (mkS K (impl_parseStmt.atv (ws.getD 1 ByteArray.empty)) (impl_parseStmt.atv (ws.getD 2 ByteArray.empty)) (impl_parseStmt.atv (ws.getD 3 ByteArray.empty)) (impl_parseStmt.atv (ws.getD 4 ByteArray.empty))).2.2.1, (mkS K (impl_parseStmt.atv (ws.getD 1 ByteArray.empty)) (impl_parseStmt.atv (ws.getD 2 ByteArray.empty)) (impl_parseStmt.atv (ws.getD 3 ByteArray.empty)) (impl_parseStmt.atv (ws.getD 4 ByteArray.empty))).2.2.2.1, (mkS K (impl_parseStmt.atv (ws.getD 1 ByteArray.empty)) (impl_parseStmt.atv (ws.getD 2 ByteArray.empty)) (impl_parseStmt.atv (ws.getD 3 ByteArray.empty)) (impl_parseStmt.atv (ws.getD 4 ByteArray.empty))).2.2.2.2.1, (mkS K (impl_parseStmt.atv (ws.getD 1 ByteArray.empty)) (impl_parseStmt.atv (ws.getD 2 ByteArray.empty)) (impl_parseStmt.atv (ws.getD 3 ByteArray.empty)) (impl_parseStmt.atv (ws.getD 4 ByteArray.empty))).2.2.2.2.2] := by
  by_cases h1 : K = 1; · subst h1; rfl
  by_cases h2 : K = 2; · subst h2; rfl
  by_cases h3 : K = 3; · subst h3; rfl
  by_cases h4 : K = 4; · subst h4; rfl
  by_cases h5 : K = 5; · subst h5; rfl
  unfold impl_parseStmt.offs1 impl_parseStmt.offs2 impl_parseStmt.offs3 mkS
  simp [h1, h2, h3, h4, h5, impl_parseStmt.fill]
theorem canon_ne (c v n o a b : Int) : canon c v n o a b ≠ [] := by
  have hk : kw c ≠ [] := by
    unfold kw
    repeat' split
    all_goals decide
  unfold canon
  intro e
  exact hk (List.append_eq_nil_iff.1 e).1
theorem iparse (s : ByteArray) (hs : s.size < 4294967281) (k : Nat) (hk : 20 ≤ k) :
    impl_parseStmt.f k s = some (if Lib.countB s ⟨#[32]⟩ = (impl_parseStmt.offs1 (impl_parseStmt.kindOf s) ++ impl_parseStmt.offs2 (impl_parseStmt.kindOf s) ++ impl_parseStmt.offs3 (impl_parseStmt.kindOf s)).length ∧ good s.data.toList (mkS (impl_parseStmt.kindOf s) (zat s 1) (zat s 2) (zat s 3) (zat s 4)) = true then ans (mkS (impl_parseStmt.kindOf s) (zat s 1) (zat s 2) (zat s 3) (zat s 4)) else (0, 0, 0, 0, 0, 0, false)) := by
  unfold impl_parseStmt.f
  rw [if_pos hs]
  by_cases h : Lib.countB s ⟨#[32]⟩ = (impl_parseStmt.offs1 (impl_parseStmt.kindOf s) ++ impl_parseStmt.offs2 (impl_parseStmt.kindOf s) ++ impl_parseStmt.offs3 (impl_parseStmt.kindOf s)).length
  · rw [if_pos h, fill_mk]
    have ez : ∀ j, impl_parseStmt.atv ((impl_parseStmt.wsOf s).getD j ByteArray.empty) = zat s j := fun _ => rfl
    rw [ez, ez, ez, ez]
    generalize mkS (impl_parseStmt.kindOf s) (zat s 1) (zat s 2) (zat s 3) (zat s 4) = x
    obtain ⟨c, v, n, o, a, b⟩ := x
    show (impl_FormatStmt.f k c v n o a b).bind _ = _
    rw [iformat c v n o a b k hk]
    simp only [Option.bind_some, h, true_and]
    unfold good
    have hn : ∀ l : List UInt8, (tx l).toList = l := fun l => by rw [ByteArray.toList_eq]; rfl
    by_cases g : sok c v n o a b = true
    · simp only [g, if_true, Bool.true_and, decide_eq_true_eq, hn, canon_ne, if_false, ByteArray.toList_eq, ans]
      split <;> rfl
    · simp [g, hn]
  · rw [if_neg h, if_neg (fun z => h z.1)]
theorem ws_cut (s : ByteArray) : (impl_parseStmt.wsOf s).map (·.data.toList) = cutGo 32 [] s.data.toList := splitB_cut s 32
theorem ws_tx {s : ByteArray} {l : List (List UInt8)} (h : cutGo 32 [] s.data.toList = l) : impl_parseStmt.wsOf s = l.map tx := by
  rw [← h, ← ws_cut, List.map_map]
  conv => lhs; rw [← List.map_id (impl_parseStmt.wsOf s)]
  apply List.map_congr_left
  intro x _
  exact (tx_back x).symm
theorem countB_cut (s : ByteArray) : Lib.countB s ⟨#[32]⟩ + 1 = (cutGo 32 [] s.data.toList).length := by
  rw [cut_len]
  congr 1
  exact Lib.count_one 32 s.data.toList
theorem atv_itoa (n : Int) (h0 : -8 ≤ n) (h1 : n ≤ 999) : impl_parseStmt.atv (tx (Lib.itoa n)) = n := by
  unfold impl_parseStmt.atv
  rw [tx_list, itoa_small n h0 h1]
theorem kind_kw (s : ByteArray) (c : Int) (hc : 1 ≤ c ∧ c ≤ 6) (r : List (List UInt8)) (h : cutGo 32 [] s.data.toList = kw c :: r) : impl_parseStmt.kindOf s = c := by
  unfold impl_parseStmt.kindOf
  rw [ws_tx h]
  rcases (show c = 1 ∨ c = 2 ∨ c = 3 ∨ c = 4 ∨ c = 5 ∨ c = 6 by omega) with rfl | rfl | rfl | rfl | rfl | rfl <;> rfl
/-- A statement's text is parsed by the program. -/
theorem ipar_good (s : ByteArray) (hs : s.size < 4294967281) (c z0 z1 z2 z3 : Int) (h : good s.data.toList (mkS c z0 z1 z2 z3) = true) (k : Nat) (hk : 20 ≤ k) : impl_parseStmt.f k s = some (ans (mkS c z0 z1 z2 z3)) := by
  have hg := good_cut h
  have hK : impl_parseStmt.kindOf s = c := by
    have := kind_kw s _ hg.1 _ hg.2.1
    rwa [mkS_kind] at this
  have hw := ws_tx hg.2.1
  have hcnt := countB_cut s
  rw [hg.2.1, List.length_cons, List.length_map] at hcnt
  have hc := hg.1
  rw [mkS_kind] at hc
  have ha := fun n hn => atv_itoa n (hg.2.2 n hn).1 (hg.2.2 n hn).2
  have hz : Lib.countB s ⟨#[32]⟩ = (impl_parseStmt.offs1 c ++ impl_parseStmt.offs2 c ++ impl_parseStmt.offs3 c).length ∧ mkS c (zat s 1) (zat s 2) (zat s 3) (zat s 4) = mkS c z0 z1 z2 z3 := by
    unfold zat
    rw [hw]
    rcases (show c = 1 ∨ c = 2 ∨ c = 3 ∨ c = 4 ∨ c = 5 ∨ c = 6 by omega) with rfl | rfl | rfl | rfl | rfl | rfl <;>
      simp [mkS, nums] at hcnt ha ⊢ <;> simp [impl_parseStmt.offs1, impl_parseStmt.offs2, impl_parseStmt.offs3, List.getD, hcnt, ha]
  rw [iparse s hs k hk, hK, hz.2, if_pos ⟨hz.1, h⟩]
theorem ipar_none (s : ByteArray) (hs : s.size < 4294967281) (h : ∀ c z0 z1 z2 z3, good s.data.toList (mkS c z0 z1 z2 z3) = false) (k : Nat) (hk : 20 ≤ k) : impl_parseStmt.f k s = some (0, 0, 0, 0, 0, 0, false) := by
  rw [iparse s hs k hk, if_neg (fun z => by rw [h] at z; exact Bool.false_ne_true z.2)]
theorem fieldsGo_len : ∀ (l cur : List UInt8), ∀ p ∈ Lib.fieldsGo cur l, p.length ≤ cur.length + l.length
  | [], cur => by
    intro p hp
    cases cur with
    | nil => simp [Lib.fieldsGo] at hp
    | cons c r => simp [Lib.fieldsGo] at hp; subst hp; simp
  | b :: l, cur => by
    intro p hp
    cases hs : Lib.isSp b with
    | true =>
      cases cur with
      | nil => rw [Lib.fieldsGo_sp b l hs] at hp; have := fieldsGo_len l [] p hp; simp at this ⊢; omega
      | cons c r =>
        rw [Lib.fieldsGo_end (c :: r) b l hs (by simp)] at hp
        rcases List.mem_cons.1 hp with e | hp
        · subst e; simp
        · have := fieldsGo_len l [] p hp; simp at this ⊢; omega
    | false =>
      rw [Lib.fieldsGo_more cur b l hs] at hp
      have := fieldsGo_len l (cur ++ [b]) p hp
      simp at this ⊢; omega
theorem spf_some {l : List UInt8} {ps : List (List UInt8)} (h : spf l = some ps) : ps.length ≤ 24 ∧ ∀ p ∈ ps, p.length ≤ 600 ∧ ∀ b ∈ p, b ≠ 32 := by
  unfold spf at h
  by_cases c : 600 < l.length ∨ l.any bad = true
  · rw [if_pos c] at h; cases h
  · rw [if_neg c] at h
    by_cases d : 24 < (Lib.fields l).length
    · rw [if_pos d] at h; cases h
    · rw [if_neg d] at h
      obtain rfl := Option.some.inj h
      have hb : ∀ b ∈ l, bad b = false := by
        intro b hb
        cases e : bad b with
        | false => rfl
        | true => exact absurd (Or.inr (List.any_eq_true.2 ⟨b, hb, e⟩)) c
      refine ⟨by omega, fun p hp => ⟨?_, fun b hbp => ?_⟩⟩
      · have := fieldsGo_len l [] p hp
        have hc : ¬ 600 < l.length := fun z => c (Or.inl z)
        simp at this; omega
      · have := (fieldsGo_good l [] hb (by simp) p hp).2 b hbp
        intro e; subst e
        rw [sp32] at this; exact Bool.noConfusion this.2
theorem words_len : ∀ (r : List (List UInt8)), (∀ p ∈ r, p.length ≤ 600) → (r.flatMap fun x => 32 :: x).length ≤ 601 * r.length
  | [], _ => by simp
  | p :: r, h => by
    have h1 := h p (by simp)
    have h2 := words_len r (fun q hq => h q (by simp [hq]))
    rw [List.flatMap_cons, List.length_append, List.length_cons, List.length_cons]; omega
theorem eqS_refl (c v n o a b : Int) : laws_eqStmt.f c v n o a b c v n o a b = some true := by
  unfold laws_eqStmt.f laws_eqExpr.f
  simp
/-- Both give the same. -/
theorem both (s : ByteArray) : ∃ r, spec_ParseStmt.f 5000 s = some r ∧ impl_ParseStmt.f 5000 s = some r := by
  unfold spec_ParseStmt.f impl_ParseStmt.f
  rw [sspl s 5000 (by omega), ispl s]
  simp only [Option.bind_some]
  unfold spr
  cases hp : spf s.data.toList with
  | none =>
    refine ⟨(0, 0, 0, 0, 0, 0, false), ?_, ?_⟩
    · rw [if_neg Bool.false_ne_true, show (5000 : Nat) = 4999 + 1 from rfl]
      simp [spec_ParseStmt.j0]
    · rw [if_neg Bool.false_ne_true]
  | some ps =>
    obtain ⟨h24, hw⟩ := spf_some hp
    have hback : (ps.map tx).map (·.data.toList) = ps := by
      rw [List.map_map]
      conv => rhs; rw [← List.map_id ps]
      rfl
    obtain ⟨T, hT⟩ : ∃ T, Lib.join ps [32] = T := ⟨_, rfl⟩
    have hline : impl_ParseStmt.line (ps.map tx) = tx T := by
      unfold impl_ParseStmt.line
      rw [hback]
      rw [← hT]; rfl
    have hTl : T.length ≤ 20000 := by
      rw [← hT]
      cases ps with
      | nil => rw [Lib.join_nil]; simp
      | cons w r =>
        rw [join_words]
        have h1 := (hw w (by simp)).1
        have h2 := words_len r (fun q hq => (hw q (by simp [hq])).1)
        rw [List.length_cons] at h24
        rw [List.length_append]; omega
    simp only [if_true, hline, List.length_map, tx_size]
    rw [if_pos ⟨by omega, by omega⟩, in_eq]
    simp only [Option.bind_some]
    have hsz : (tx T).size < 4294967281 := by rw [tx_size]; omega
    by_cases hr : 1 ≤ (ps.length : Int) ∧ (ps.length : Int) ≤ 5
    · rw [decide_eq_true hr]
      cases ps with
      | nil => simp at hr
      | cons w r =>
        rw [List.length_cons] at hr
        have hcut : cutGo 32 [] T = w :: r := by
          rw [← hT, join_words]
          exact cut_words 32 r w (hw w (by simp)).2 (fun x hx => (hw x (by simp [hx])).2)
        have e0 := l0_tells ((w :: r).map tx) (by simp; omega) (by
          intro x hx
          obtain ⟨q, hq, rfl⟩ := List.mem_map.1 hx
          rw [tx_size]; exact (hw q hq).1) (r.map tx) (4998 - r.length) [tx w] w [] (by omega) (by simp) (by have := (hw w (by simp)).1; simp; omega) (by simp)
        have eT : w ++ (r.map tx).flatMap (fun w => 32 :: w.data.toList) = T := by
          rw [← hT, join_words, List.flatMap_map]; rfl
        rw [eT, List.nil_append, List.length_map, List.length_singleton, show 4998 - r.length + r.length + 1 = 4999 by omega] at e0
        obtain ⟨z0, z1, z2, z3, q, hz⟩ : ∃ z0 z1 z2 z3 q, (r.map tx).map ln ++ [0, 0, 0, 0] = z0 :: z1 :: z2 :: z3 :: q := by
          generalize (r.map tx).map ln = y
          rcases y with _ | ⟨y0, _ | ⟨y1, _ | ⟨y2, _ | ⟨y3, y⟩⟩⟩⟩
          · exact ⟨_, _, _, _, _, rfl⟩
          · exact ⟨_, _, _, _, _, rfl⟩
          · exact ⟨_, _, _, _, _, rfl⟩
          · exact ⟨_, _, _, _, _, rfl⟩
          · exact ⟨_, _, _, _, _, rfl⟩
        have e1 := l1_tells (tx T) z0 z1 z2 z3 q (4979 - r.length) (by omega)
        rw [show 4979 - r.length + 19 = 4998 - r.length by omega, tx_list] at e1
        have eS : spec_ParseStmt.j0 5000 ((w :: r).map tx) (!true) = some (sres T z0 z1 z2 z3) := by
          have hfx : ∀ q, spec_ParseStmt.j0 (q + 1) ((w :: r).map tx) (!true) = spec_ParseStmt.l0 q ((w :: r).map tx) (tx w) [] 1 := by
            intro q
            simp only [spec_ParseStmt.j0]
            rw [if_neg (by simp), if_pos (by simp)]
            rfl
          rw [hfx 4999]
          refine e0.trans ?_
          rw [hz, e1]
        rw [eS]
        by_cases ex : ∃ c y0 y1 y2 y3, good T (mkS c y0 y1 y2 y3) = true
        · obtain ⟨c, y0, y1, y2, y3, hg⟩ := ex
          refine ⟨ans (mkS c y0 y1 y2 y3), ?_, ipar_good (tx T) hsz c y0 y1 y2 y3 hg 5000 (by omega)⟩
          have hq := good_cut hg
          rw [hcut] at hq
          have hrn := (List.cons.inj hq.2.1).2
          have hln : (r.map tx).map ln = nums (mkS c y0 y1 y2 y3).1 (mkS c y0 y1 y2 y3).2.1 (mkS c y0 y1 y2 y3).2.2.1 (mkS c y0 y1 y2 y3).2.2.2.1 (mkS c y0 y1 y2 y3).2.2.2.2.1 (mkS c y0 y1 y2 y3).2.2.2.2.2 := by
            rw [hrn, List.map_map, List.map_map]
            conv => rhs; rw [← List.map_id (nums _ _ _ _ _ _)]
            apply List.map_congr_left
            intro n hn
            exact ln_itoa n (hq.2.2 n hn).1 (hq.2.2 n hn).2
          rw [hln] at hz
          have hc := hq.1
          rw [mkS_kind] at hc
          have hm : mkS c z0 z1 z2 z3 = mkS c y0 y1 y2 y3 := by
            rcases (show c = 1 ∨ c = 2 ∨ c = 3 ∨ c = 4 ∨ c = 5 ∨ c = 6 by omega) with rfl | rfl | rfl | rfl | rfl | rfl <;>
              simp [mkS, nums] at hz ⊢ <;> simp [hz]
          rw [← hm] at hg ⊢
          rw [sres_good hg]
        · have hno : ∀ c y0 y1 y2 y3, good T (mkS c y0 y1 y2 y3) = false := by
            intro c y0 y1 y2 y3
            cases e : good T (mkS c y0 y1 y2 y3) with
            | false => rfl
            | true => exact absurd ⟨c, y0, y1, y2, y3, e⟩ ex
          refine ⟨(0, 0, 0, 0, 0, 0, false), ?_, ipar_none (tx T) hsz hno 5000 (by omega)⟩
          rw [sres_none (fun c => hno c z0 z1 z2 z3)]
    · rw [decide_eq_false hr]
      refine ⟨(0, 0, 0, 0, 0, 0, false), ?_, ipar_none (tx T) hsz ?_ 5000 (by omega)⟩
      · rw [show (5000 : Nat) = 4999 + 1 from rfl]
        simp [spec_ParseStmt.j0]
      · intro c y0 y1 y2 y3
        rw [tx_list]
        cases e : good T (mkS c y0 y1 y2 y3) with
        | false => rfl
        | true =>
          exfalso
          have hg := good_cut e
          cases ps with
          | nil =>
            unfold good at e
            rw [Bool.and_eq_true, decide_eq_true_eq, ← hT, Lib.join_nil] at e
            exact canon_ne _ _ _ _ _ _ e.2
          | cons w r =>
            have hcut : cutGo 32 [] T = w :: r := by
              rw [← hT, join_words]
              exact cut_words 32 r w (hw w (by simp)).2 (fun x hx => (hw x (by simp [hx])).2)
            rw [hcut] at hg
            have hrn := congrArg List.length hg.2.1
            have h4 := nums_len (mkS c y0 y1 y2 y3).1 (mkS c y0 y1 y2 y3).2.1 (mkS c y0 y1 y2 y3).2.2.1 (mkS c y0 y1 y2 y3).2.2.2.1 (mkS c y0 y1 y2 y3).2.2.2.2.1 (mkS c y0 y1 y2 y3).2.2.2.2.2
            simp only [List.length_cons, List.length_map] at hrn
            rw [List.length_cons] at hr
            omega
theorem FnExactParseStmt : laws_FnExactParseStmt.Pure := by
  intro s hs
  refine ⟨5000, ?_⟩
  unfold laws_FnExactParseStmt.f
  by_cases c : (s.size : Int) > 1048576
  · rw [if_pos c]
  · rw [if_neg c]
    obtain ⟨r, h1, h2⟩ := both s
    rw [h1, h2]
    simp only [Option.bind_some]
    rw [eqS_refl]
    simp

end Go.Proofs.YtcpmkcidehhbiaaDoor.Pure
