/- The program's FormatStmt and the reference's return the same text for every statement; the row's tables of the library hold what the card ties. -/
import Derived.Test.YtcpmkcidehhbiaaDoorPFnExactFormatStmtx7
import Derived.Laws.Concat
import Derived.Laws.Strings
import Derived.Lib.ItoaMem
namespace Go.Proofs.YtcpmkcidehhbiaaDoor.Pure
open Go.RowKit Go.Proofs.YtcpmkcidehhbiaaDoor.PFnExactFormatStmt Go.Proofs.YtcpmkcidehhbiaaDoorW.PrintWords Go.Proofs.YtcpmkcidehhbiaaDoorW.PrintLast
set_option linter.unusedVariables false
set_option linter.unusedSimpArgs false

theorem w64 {n : Int} (h1 : -9223372036854775808 ≤ n) (h2 : n ≤ 9223372036854775807) : wrap64 n = n := by unfold wrap64; omega
theorem w64_in (n : Int) : -9223372036854775808 ≤ wrap64 n ∧ wrap64 n ≤ 9223372036854775807 := by unfold wrap64; omega
theorem wf64 {n : Int} (h : (Lit.int .i64 n).wf = true) : -9223372036854775808 ≤ n ∧ n ≤ 9223372036854775807 := by
  simp only [Lit.wf, IntKind.min, IntKind.max, IntKind.signed, IntKind.bits, Bool.and_eq_true, decide_eq_true_eq, if_true] at h
  omega
theorem wfu8 {n : Int} (h : (Lit.int .u8 n).wf = true) : 0 ≤ n ∧ n ≤ 255 := by
  simp [Lit.wf, IntKind.min, IntKind.max, IntKind.signed, IntKind.bits] at h
  omega
theorem and_in (x : Int) (m : Nat) (hm : m < 9223372036854775808) : 0 ≤ Go.bits .and .i64 x (m : Int) ∧ Go.bits .and .i64 x (m : Int) ≤ m := by
  have h1 : (BitVec.ofInt 64 x &&& BitVec.ofInt 64 (m : Int)).toNat ≤ m := by
    rw [BitVec.toNat_and]
    refine Nat.le_trans Nat.and_le_right ?_
    rw [BitVec.ofInt_natCast, BitVec.toNat_ofNat]
    exact Nat.mod_le _ _
  have h2 : Go.bits .and .i64 x (m : Int) = IntKind.i64.wrap (((BitVec.ofInt 64 x &&& BitVec.ofInt 64 (m : Int)).toNat : Nat) : Int) := rfl
  rw [h2, Go.IntKind.wrap_i64]
  omega
theorem and255 (x : Int) : 0 ≤ Go.bits .and .i64 x 255 ∧ Go.bits .and .i64 x 255 ≤ 255 := and_in x 255 (by decide)
theorem tmod_in (x n : Int) (h0 : 0 ≤ x) (h : 1 ≤ n) : 0 ≤ Int.tmod x n ∧ Int.tmod x n < n := ⟨Int.tmod_nonneg _ h0, Int.tmod_lt_of_pos _ (by omega)⟩
/-- A text out of its bytes. -/
def tx (l : List UInt8) : ByteArray := ⟨l.toArray⟩
theorem tx_size (l : List UInt8) : (tx l).size = l.length := by simp [tx, ByteArray.size]
theorem tx_list (l : List UInt8) : (tx l).data.toList = l := rfl
theorem tx_app (a b : List UInt8) : tx a ++ tx b = tx (a ++ b) := by unfold tx; exact ByteArray.mk_append_mk _ _
theorem tx_back (s : ByteArray) : tx s.data.toList = s := by cases s; simp [tx]
theorem size_tl (s : ByteArray) : s.size = s.data.toList.length := (Array.length_toList).symm
theorem tl_eq (a b : ByteArray) : a.toList = b.toList ↔ a.data.toList = b.data.toList := by rw [ByteArray.toList_eq, ByteArray.toList_eq]
theorem tx_inj (a b : List UInt8) : tx a = tx b ↔ a = b := by
  constructor
  · intro h
    have := congrArg (fun s : ByteArray => s.data.toList) h
    simpa [tx] using this
  · rintro rfl; rfl
theorem bt_tx (s : ByteArray) (pre : List UInt8) (c : UInt8) (u : List UInt8) (h : s.data.toList = pre ++ c :: u) : bt s (pre.length : Int) = (c.toNat : Int) := by
  have hl : s.data.toList.length = pre.length + (u.length + 1) := by rw [h]; simp
  have hz : pre.length < s.size := by have := size_tl s; omega
  unfold bt
  rw [dif_pos (by simpa using hz)]
  have e : s[((pre.length : Nat) : Int).toNat]'(by simpa using hz) = s.data.toList[pre.length]'(by omega) := by simp [ByteArray.getElem_eq_getElem_data]
  rw [e]
  have e2 : s.data.toList[pre.length]'(by omega) = c := by simp only [h]; simp
  rw [e2]
theorem nd_le : ∀ (k u : Nat), u < 10 ^ (k + 1) → Lib.nDigits u ≤ k + 1 := by
  intro k
  induction k with
  | zero => intro u hu; rw [Lib.nDigits_small (by simpa using hu)]; omega
  | succ k ih =>
    intro u hu
    by_cases c : u < 10
    · rw [Lib.nDigits_small c]; omega
    · rw [Lib.nDigits_big c]
      have := ih (u / 10) (by rw [Nat.pow_succ] at hu; omega)
      omega
theorem itoa_len {n : Int} (h0 : -9223372036854775808 ≤ n) (h1 : n ≤ 9223372036854775807) : (Lib.itoa n).length ≤ 20 := by
  have hp : (9223372036854775808 : Nat) < 10 ^ 19 := by decide
  unfold Lib.itoa
  split
  · rw [List.length_cons, Lib.decDigits_length]
    have := nd_le 18 n.natAbs (by show n.natAbs < 10 ^ 19; omega)
    omega
  · rw [Lib.decDigits_length]
    have := nd_le 18 n.toNat (by show n.toNat < 10 ^ 19; omega)
    omega
/-- The digits of u, none of nought. -/
def dgs (u : Nat) : List UInt8 := if u = 0 then [] else Lib.decDigits u
theorem dgs_step (u : Nat) (h : 1 ≤ u) : dgs u = dgs (u / 10) ++ [UInt8.ofNat (48 + u % 10)] := by
  unfold dgs
  rw [if_neg (by omega)]
  by_cases c : u < 10
  · rw [Lib.decDigits_one c, if_pos (by omega)]
    rw [show u % 10 = u by omega]; rfl
  · rw [if_neg (by omega)]
    conv => lhs; rw [Lib.decDigits, dif_neg c]
theorem fig1 (v : Nat) (h : v < 10) : spec_l01Figure.f (v : Int) = some (((48 + v : Nat) : Int)) := by
  unfold spec_l01Figure.f
  rw [if_pos (by omega), w64 (by omega) (by omega)]
  congr 1; omega
theorem fmt_loop (b : Bool) (k : Nat) : ∀ (x : Int) (u : Nat) (l : List UInt8), x = u ∨ x = -(u : Int) → u < 10 ^ k → u ≤ 9223372036854775808 → l.length + k ≤ 40 → x ≤ 9223372036854775807 →
    spec_FormatInt.l0 (k + 1) x b ⟨l.toArray⟩ = some (if b = true then ⟨(45 :: (dgs u ++ l)).toArray⟩ else ⟨(dgs u ++ l).toArray⟩) := by
  induction k with
  | zero =>
    intro x u l hx hu _ hl _
    have h0 : u = 0 := by simpa using hu
    have hx0 : x = 0 := by omega
    simp only [spec_FormatInt.l0]
    rw [if_pos hx0, h0]
    have hz : (ByteArray.mk l.toArray).size = l.length := by simp [ByteArray.size]
    have e : (⟨#[45]⟩ : ByteArray) ++ ⟨l.toArray⟩ = ⟨(45 :: l).toArray⟩ := ByteArray.mk_append_mk [45] l
    have hc : 1 + (ByteArray.mk l.toArray).size ≤ 9223372036854775807 := by rw [hz]; omega
    rw [e, if_pos hc]
    have : dgs 0 ++ l = l := rfl
    rw [this]
    cases b <;> rfl
  | succ k ih =>
    intro x u l hx hu hu2 hl hx2
    obtain ⟨m, hm⟩ : ∃ m, m = k + 1 := ⟨_, rfl⟩
    rw [← hm] at ih ⊢
    have hz : (ByteArray.mk l.toArray).size = l.length := by simp [ByteArray.size]
    by_cases h0 : u = 0
    · have hx0 : x = 0 := by omega
      simp only [spec_FormatInt.l0]
      rw [if_pos hx0, h0]
      have e : (⟨#[45]⟩ : ByteArray) ++ ⟨l.toArray⟩ = ⟨(45 :: l).toArray⟩ := ByteArray.mk_append_mk [45] l
      have hc : 1 + (ByteArray.mk l.toArray).size ≤ 9223372036854775807 := by rw [hz]; omega
      rw [e, if_pos hc]
      have : dgs 0 ++ l = l := rfl
      rw [this]
      cases b <;> rfl
    · have hs := dgs_step u (by omega)
      have hv : u % 10 < 10 := Nat.mod_lt _ (by omega)
      have hd : u / 10 < 10 ^ k := by rw [Nat.div_lt_iff_lt_mul (by omega)]; rw [Nat.pow_succ] at hu; exact hu
      have hS : strOfNums [((48 + u % 10 : Nat) : Int)] = ⟨[UInt8.ofNat (48 + u % 10)].toArray⟩ := by unfold strOfNums; rw [List.map_cons, List.map_nil, Int.toNat_natCast]
      have e : strOfNums [((48 + u % 10 : Nat) : Int)] ++ (⟨l.toArray⟩ : ByteArray) = ⟨(UInt8.ofNat (48 + u % 10) :: l).toArray⟩ := by rw [hS]; exact ByteArray.mk_append_mk _ l
      have hsz : (strOfNums [((48 + u % 10 : Nat) : Int)]).size = 1 := by rw [strOfNums_size]; rfl
      have ht : dgs (u / 10) ++ (UInt8.ofNat (48 + u % 10) :: l) = dgs u ++ l := by rw [hs]; simp
      simp only [spec_FormatInt.l0]
      rw [if_neg (by omega)]
      rcases hx with hx | hx
      · have h1 : Int.tmod x 10 = ((u % 10 : Nat) : Int) := by rw [hx, Int.tmod_eq_emod_of_nonneg (by omega)]; rfl
        have h2 : Int.tdiv x 10 = ((u / 10 : Nat) : Int) := by rw [hx, Int.tdiv_eq_ediv_of_nonneg (by omega)]; rfl
        rw [h1, h2, if_neg (by omega), fig1 _ hv]
        simp only [Option.bind_some]
        rw [hsz, hz, if_pos (by omega), w64 (by omega) (by omega), e, ih _ (u / 10) _ (Or.inl rfl) hd (by omega) (by simp only [List.length_cons]; omega) (by omega), ht]
      · have h1 : Int.tmod x 10 = -((u % 10 : Nat) : Int) := by rw [hx, Int.neg_tmod, Int.tmod_eq_emod_of_nonneg (by omega)]; rfl
        have h2 : Int.tdiv x 10 = -((u / 10 : Nat) : Int) := by rw [hx, Int.neg_tdiv, Int.tdiv_eq_ediv_of_nonneg (by omega)]; rfl
        rw [h1, h2]
        by_cases c : u % 10 = 0
        · have hf := fig1 0 (by omega)
          rw [if_neg (by omega), c, show -((0 : Nat) : Int) = ((0 : Nat) : Int) from rfl, hf]
          simp only [Option.bind_some]
          rw [c] at hsz e ht
          rw [hsz, hz, if_pos (by omega), w64 (by omega) (by omega), e, ih _ (u / 10) _ (Or.inr rfl) hd (by omega) (by simp only [List.length_cons]; omega) (by omega), ht]
        · rw [if_pos (by omega), w64 (n := - -((u % 10 : Nat) : Int)) (by omega) (by omega), Int.neg_neg, fig1 _ hv]
          simp only [Option.bind_some]
          rw [hsz, hz, if_pos (by omega), w64 (by omega) (by omega), e, ih _ (u / 10) _ (Or.inr rfl) hd (by omega) (by simp only [List.length_cons]; omega) (by omega), ht]
theorem sfmt (n : Int) (h0 : -9223372036854775808 ≤ n) (h1 : n ≤ 9223372036854775807) (k : Nat) (hk : 20 ≤ k) : spec_FormatInt.f k n = some ⟨(Lib.itoa n).toArray⟩ := by
  have hp : (9223372036854775808 : Nat) < 10 ^ 19 := by decide
  unfold spec_FormatInt.f Lib.itoa
  by_cases c : n = 0
  · rw [if_pos c, c, if_neg (by omega), show (0 : Int).toNat = 0 from rfl, Lib.decDigits_one (by omega)]; rfl
  · rw [if_neg c]
    have h := fmt_loop (decide (n < 0)) 19 n n.natAbs [] (by omega) (by omega) (by omega) (by simp) h1
    have e : (⟨#[]⟩ : ByteArray) = ⟨([] : List UInt8).toArray⟩ := rfl
    rw [e, at_rounds (fun k => spec_FormatInt.mono_l k _ _ _) (by omega : 19 + 1 ≤ k) h, List.append_nil]
    have hd : dgs n.natAbs = Lib.decDigits n.natAbs := by unfold dgs; rw [if_neg (by omega)]
    rw [hd]
    by_cases d : n < 0
    · rw [if_pos (decide_eq_true d), if_pos d]
    · rw [if_neg (by simp; omega), if_neg d, show n.natAbs = n.toNat by omega]
theorem ifmt (n : Int) (h0 : -9223372036854775808 ≤ n) (h1 : n ≤ 9223372036854775807) : impl_FormatInt.f n = some ⟨(Lib.itoa n).toArray⟩ := by
  unfold impl_FormatInt.f
  rw [if_pos ⟨h0, h1⟩]
theorem in_eq (a b c : Int) : spec_l01In.f a b c = some (decide (b ≤ a ∧ a ≤ c)) := by
  unfold spec_l01In.f
  by_cases h : a ≥ b
  · rw [if_pos h]; simp; omega
  · rw [if_neg h]; simp; omega
theorem within_eq (a b c : Int) : impl_within.f a b c = some (decide (b ≤ a ∧ a ≤ c)) := by
  unfold impl_within.f
  by_cases h : a ≥ b
  · rw [if_pos h]; simp; omega
  · rw [if_neg h]; simp; omega
/-- A valid expression. -/
def eok (o a b : Int) : Bool := decide (1 ≤ o ∧ o ≤ 7) && (decide (-8 ≤ a ∧ a ≤ 999) && decide (-8 ≤ b ∧ b ≤ 999))
theorem iexpr (o a b : Int) : impl_ExprOk.f o a b = some (eok o a b) := by
  unfold impl_ExprOk.f impl_OperandOk.f eok
  simp only [within_eq, Option.bind_some]
  cases decide (1 ≤ o ∧ o ≤ 7) <;> cases decide (-8 ≤ a ∧ a ≤ 999) <;> simp
theorem eok_in {o a b : Int} (h : eok o a b = true) : (1 ≤ o ∧ o ≤ 7) ∧ (-8 ≤ a ∧ a ≤ 999) ∧ (-8 ≤ b ∧ b ≤ 999) := by
  unfold eok at h
  simp only [Bool.and_eq_true, decide_eq_true_eq] at h
  exact h
theorem sexpr (o a b : Int) : spec_ExprOk.f o a b = some (eok o a b) := by
  unfold spec_ExprOk.f spec_OperandOk.f eok
  simp only [in_eq, Option.bind_some]
  cases decide (1 ≤ o ∧ o ≤ 7) <;> cases decide (-8 ≤ a ∧ a ≤ 999) <;> simp
/-- A valid statement. -/
def zok (o a b : Int) : Bool := decide (o = 0) && (decide (a = 0) && decide (b = 0))
def sok (c v n o a b : Int) : Bool :=
  if c = 1 then decide (0 ≤ v ∧ v ≤ 7) && (decide (n = 0) && eok o a b)
  else if c = 2 then decide (0 ≤ v ∧ v ≤ 7) && (decide (0 ≤ n ∧ n ≤ 3) && zok o a b)
  else if c = 3 then decide (v = 0) && (decide (n = 0) && eok o a b)
  else if c = 4 then decide (v = 0) && (decide (n = 0) && eok o a b)
  else if c = 5 then decide (v = 0) && (decide (1 ≤ n ∧ n ≤ 5) && zok o a b)
  else if c = 6 then decide (v = 0) && (decide (n = 0) && zok o a b)
  else false
theorem hasVar_eq (c : Int) : impl_hasVar.f c = some (decide (c = 1 ∨ c = 2)) := by
  unfold impl_hasVar.f
  by_cases h : c = 1
  · rw [if_pos h]; simp [h]
  · rw [if_neg h]; simp [h]; rfl
theorem hasExpr_eq (c : Int) : impl_hasExpr.f c = some (decide (c = 1 ∨ c = 3 ∨ c = 4)) := by
  unfold impl_hasExpr.f
  by_cases h : c = 1
  · rw [if_pos h]; simp [h]
  · rw [if_neg h]
    by_cases h2 : c = 3
    · rw [if_pos h2]; simp [h2]
    · rw [if_neg h2]; simp [h, h2]; rfl
theorem isVar_eq (v : Int) : impl_isVar.f v = some (decide (0 ≤ v ∧ v ≤ 7)) := by
  unfold impl_isVar.f; rw [within_eq]; rfl
theorem isSensor_eq (v : Int) : impl_isSensor.f v = some (decide (0 ≤ v ∧ v ≤ 3)) := by
  unfold impl_isSensor.f; rw [within_eq]; rfl
theorem istmt (c v n o a b : Int) (k : Nat) (hk : 2 ≤ k) : impl_StmtOk.f k c v n o a b = some (sok c v n o a b) := by
  obtain ⟨k, rfl⟩ : ∃ m, k = m + 2 := ⟨k - 2, by omega⟩
  unfold impl_StmtOk.f sok zok
  simp only [within_eq, hasVar_eq, isVar_eq, hasExpr_eq, isSensor_eq, iexpr, Option.bind_some, impl_StmtOk.j0, impl_StmtOk.j1]
  by_cases h1 : c = 1
  · subst h1
    cases decide (0 ≤ v ∧ v ≤ 7) <;> cases eok o a b <;> by_cases hn : n = 0 <;> simp [hn]
  · by_cases h2 : c = 2
    · subst h2
      cases decide (0 ≤ v ∧ v ≤ 7) <;> cases decide (0 ≤ n ∧ n ≤ 3) <;> by_cases ho : o = 0 <;> by_cases ha : a = 0 <;> by_cases hb : b = 0 <;> simp [ho, ha, hb]
    · by_cases h3 : c = 3
      · subst h3
        cases eok o a b <;> by_cases hn : n = 0 <;> by_cases hv : v = 0 <;> simp [hn, hv]
      · by_cases h4 : c = 4
        · subst h4
          cases eok o a b <;> by_cases hn : n = 0 <;> by_cases hv : v = 0 <;> simp [hn, hv]
        · by_cases h5 : c = 5
          · subst h5
            cases decide (1 ≤ n ∧ n ≤ 5) <;> by_cases hv : v = 0 <;> by_cases ho : o = 0 <;> by_cases ha : a = 0 <;> by_cases hb : b = 0 <;> simp [hv, ho, ha, hb]
          · by_cases h6 : c = 6
            · subst h6
              by_cases hn : n = 0 <;> by_cases hv : v = 0 <;> by_cases ho : o = 0 <;> by_cases ha : a = 0 <;> by_cases hb : b = 0 <;> simp [hn, hv, ho, ha, hb]
            · have hw : ¬ (1 ≤ c ∧ c ≤ 6) := by omega
              simp [h1, h2, h3, h4, h5, h6, hw]
theorem sstmt (c v n o a b : Int) (k : Nat) (hk : 2 ≤ k) : spec_StmtOk.f k c v n o a b = some (sok c v n o a b) := by
  obtain ⟨k, rfl⟩ : ∃ m, k = m + 2 := ⟨k - 2, by omega⟩
  unfold spec_StmtOk.f spec_l04Plain.f sok zok
  simp only [in_eq, sexpr, Option.bind_some, spec_StmtOk.j0]
  by_cases h1 : c = 1
  · subst h1
    cases decide (0 ≤ v ∧ v ≤ 7) <;> cases eok o a b <;> by_cases hn : n = 0 <;> simp [hn]
  · by_cases h2 : c = 2
    · subst h2
      cases decide (0 ≤ v ∧ v ≤ 7) <;> cases decide (0 ≤ n ∧ n ≤ 3) <;> by_cases ho : o = 0 <;> by_cases ha : a = 0 <;> by_cases hb : b = 0 <;> simp [ho, ha, hb]
    · by_cases h3 : c = 3
      · subst h3
        cases eok o a b <;> by_cases hn : n = 0 <;> by_cases hv : v = 0 <;> simp [hn, hv]
      · by_cases h4 : c = 4
        · subst h4
          cases eok o a b <;> by_cases hn : n = 0 <;> by_cases hv : v = 0 <;> simp [hn, hv]
        · by_cases h5 : c = 5
          · subst h5
            cases decide (1 ≤ n ∧ n ≤ 5) <;> by_cases hv : v = 0 <;> by_cases ho : o = 0 <;> by_cases ha : a = 0 <;> by_cases hb : b = 0 <;> simp [hv, ho, ha, hb]
          · by_cases h6 : c = 6
            · subst h6
              by_cases hn : n = 0 <;> by_cases hv : v = 0 <;> by_cases ho : o = 0 <;> by_cases ha : a = 0 <;> by_cases hb : b = 0 <;> simp [hn, hv, ho, ha, hb]
            · by_cases hn : n = 0 <;> by_cases hv : v = 0 <;> by_cases ho : o = 0 <;> by_cases ha : a = 0 <;> by_cases hb : b = 0 <;> simp [h1, h2, h3, h4, h5, h6, hn, hv, ho, ha, hb]
/-- A number behind a space. -/
def spn (n : Int) : List UInt8 := 32 :: Lib.itoa n
/-- A statement's word. -/
def kw (c : Int) : List UInt8 := if c = 1 then [115, 101, 116] else if c = 2 then [115, 101, 110, 115, 101] else if c = 3 then [115, 101, 110, 100] else if c = 4 then [105, 102] else if c = 5 then [108, 111, 111, 112] else [101, 110, 100]
/-- A statement's numbers. -/
def nums (c v n o a b : Int) : List Int := if c = 1 then [v, o, a, b] else if c = 2 then [v, n] else if c = 3 ∨ c = 4 then [o, a, b] else if c = 5 then [n] else []
/-- A statement's text. -/
def canon (c v n o a b : Int) : List UInt8 := kw c ++ (nums c v n o a b).flatMap spn
theorem rd_at (pre : List Int) (n : Int) (u : List Int) : rd (pre ++ n :: u) (pre.length : Int) = n := by
  unfold Go.Proofs.YtcpmkcidehhbiaaDoorW.PrintWords.rd
  simp [List.getD]
def i64 (n : Int) : Prop := -9223372036854775808 ≤ n ∧ n ≤ 9223372036854775807
theorem spn_tx (n : Int) : (⟨#[32]⟩ : ByteArray) ++ (⟨(Lib.itoa n).toArray⟩ : ByteArray) = tx (spn n) := tx_app [32] (Lib.itoa n)
theorem spn_len {n : Int} (h : i64 n) : (spn n).length ≤ 21 := by
  have := itoa_len h.1 h.2
  unfold spn
  rw [List.length_cons]; omega
theorem spaced_loop (ns : List Int) (hl : ns.length ≤ 100) (u : List Int) : ∀ (k : Nat) (x : List UInt8) (pre : List Int), ns = pre ++ u → (∀ n ∈ u, i64 n) → x.length + 30 * u.length ≤ 100000 → u.length < k →
    impl_spaced.l0 k (tx x) ns (ns.length : Int) (pre.length : Int) = some (tx (x ++ u.flatMap spn)) := by
  induction u with
  | nil =>
    intro k x pre e _ _ hk
    obtain ⟨k, rfl⟩ : ∃ m, k = m + 1 := ⟨k - 1, by omega⟩
    simp only [impl_spaced.l0]
    rw [if_neg (by rw [e]; simp)]
    simp
  | cons n u ih =>
    intro k x pre e hn hx hk
    simp only [List.length_cons] at hk hx
    obtain ⟨k, rfl⟩ : ∃ m, k = m + 1 := ⟨k - 1, by omega⟩
    have hlen : ns.length = pre.length + (u.length + 1) := by rw [e]; simp
    have h0 := hn n (by simp)
    have hs := spn_len h0
    have hz : (⟨(Lib.itoa n).toArray⟩ : ByteArray).size = (Lib.itoa n).length := tx_size _
    have hi := itoa_len h0.1 h0.2
    have i2 := ih k (x ++ spn n) (pre ++ [n]) (by rw [e]; simp) (fun y hy => hn y (by simp [hy])) (by rw [List.length_append]; omega) (by omega)
    rw [List.length_append, List.length_singleton] at i2
    simp only [impl_spaced.l0]
    rw [if_pos (by omega), if_pos (by omega), if_pos (by omega), show rd ns (pre.length : Int) = n by rw [e]; exact rd_at pre n u, ifmt n h0.1 h0.2]
    simp only [Option.bind_some]
    rw [spn_tx, tx_size, tx_size, hz, if_pos (by omega), if_pos (by omega), tx_app, w64 (by omega) (by omega), show ((pre.length : Nat) : Int) + 1 = ((pre.length + 1 : Nat) : Int) by omega, i2]
    simp
theorem spaced_tells (x : List UInt8) (ns : List Int) (hl : ns.length ≤ 100) (hx : x.length ≤ 1000) (hn : ∀ n ∈ ns, i64 n) (k : Nat) (hk : ns.length < k) : impl_spaced.f k (tx x) ns = some (tx (x ++ ns.flatMap spn)) := by
  unfold impl_spaced.f
  exact spaced_loop ns hl ns k x [] (by simp) hn (by omega) hk
theorem hasN_eq (c : Int) : impl_hasN.f c = some (decide (c = 2 ∨ c = 5)) := by
  unfold impl_hasN.f
  by_cases h : c = 2
  · rw [if_pos h]; simp [h]
  · rw [if_neg h]; simp [h]; rfl
theorem sok_kind {c v n o a b : Int} (h : sok c v n o a b = true) : c = 1 ∨ c = 2 ∨ c = 3 ∨ c = 4 ∨ c = 5 ∨ c = 6 := by
  unfold sok at h
  by_cases h1 : c = 1; · exact Or.inl h1
  by_cases h2 : c = 2; · exact Or.inr (Or.inl h2)
  by_cases h3 : c = 3; · exact Or.inr (Or.inr (Or.inl h3))
  by_cases h4 : c = 4; · exact Or.inr (Or.inr (Or.inr (Or.inl h4)))
  by_cases h5 : c = 5; · exact Or.inr (Or.inr (Or.inr (Or.inr (Or.inl h5))))
  by_cases h6 : c = 6; · exact Or.inr (Or.inr (Or.inr (Or.inr (Or.inr h6))))
  rw [if_neg h1, if_neg h2, if_neg h3, if_neg h4, if_neg h5, if_neg h6] at h
  cases h
/-- The numbers of a valid statement are small. -/
theorem nums_small {c v n o a b : Int} (h : sok c v n o a b = true) : ∀ x ∈ nums c v n o a b, -8 ≤ x ∧ x ≤ 999 := by
  intro x hx
  rcases sok_kind h with rfl | rfl | rfl | rfl | rfl | rfl
  · simp only [sok, if_true, Bool.and_eq_true, decide_eq_true_eq] at h
    have he := eok_in h.2.2
    simp only [nums, if_true, List.mem_cons, List.not_mem_nil, or_false] at hx
    omega
  · simp [sok] at h
    simp [nums] at hx
    omega
  · simp [sok] at h
    have he := eok_in h.2.2
    simp [nums] at hx
    omega
  · simp [sok] at h
    have he := eok_in h.2.2
    simp [nums] at hx
    omega
  · simp [sok] at h
    simp [nums] at hx
    omega
  · simp [nums] at hx
theorem nums_len (c v n o a b : Int) : (nums c v n o a b).length ≤ 4 := by
  unfold nums
  repeat' split
  all_goals simp
theorem kw_len (c : Int) : (kw c).length ≤ 5 := by
  unfold kw
  repeat' split
  all_goals simp
theorem iformat (c v n o a b : Int) (k : Nat) (hk : 20 ≤ k) : impl_FormatStmt.f k c v n o a b = some (tx (if sok c v n o a b = true then canon c v n o a b else [])) := by
  unfold impl_FormatStmt.f
  rw [istmt c v n o a b k (by omega)]
  simp only [Option.bind_some]
  by_cases h : sok c v n o a b = true
  · rw [if_pos h, if_pos h]
    have hs := nums_small h
    have hi : ∀ x ∈ nums c v n o a b, i64 x := fun x hx => by have := hs x hx; unfold i64; omega
    have hsp := spaced_tells (kw c) (nums c v n o a b) (by have := nums_len c v n o a b; omega) (by have := kw_len c; omega) hi
    obtain ⟨k, rfl⟩ : ∃ m, k = m + 2 := ⟨k - 2, by omega⟩
    have h2 := hsp k (by have := nums_len c v n o a b; omega)
    unfold canon
    rcases sok_kind h with rfl | rfl | rfl | rfl | rfl | rfl <;>
      simp [hasVar_eq, hasN_eq, hasExpr_eq, impl_FormatStmt.j0, impl_FormatStmt.j1, impl_stmtNames.f, Go.Proofs.YtcpmkcidehhbiaaDoorW.PrintWords.rdOf, nums, kw] at h2 ⊢ <;> exact h2
  · rw [if_neg h, if_neg h]; rfl
theorem sfmt_tx {n : Int} (h : i64 n) (k : Nat) (hk : 20 ≤ k) : spec_FormatInt.f k n = some (tx (Lib.itoa n)) := sfmt n h.1 h.2 k hk
theorem l04_tells {o a b : Int} (ho : i64 o) (ha : i64 a) (hb : i64 b) (k : Nat) (hk : 20 ≤ k) : spec_l04Expr.f k o a b = some (tx ([o, a, b].flatMap spn)) := by
  have h1 := itoa_len ho.1 ho.2
  have h2 := itoa_len ha.1 ha.2
  have h3 := itoa_len hb.1 hb.2
  have e : (⟨#[32]⟩ : ByteArray) = tx [32] := rfl
  unfold spec_l04Expr.f
  rw [sfmt_tx ho k hk, sfmt_tx ha k hk, sfmt_tx hb k hk]
  simp only [Option.bind_some, e, tx_app, tx_size, List.length_append, List.length_singleton]
  rw [if_pos (by omega), if_pos (by omega), if_pos (by omega), if_pos (by omega), if_pos (by omega)]
  congr 2
  simp [spn]
theorem sformat (c v n o a b : Int) (k : Nat) (hk : 20 ≤ k) : spec_FormatStmt.f k c v n o a b = some (tx (if sok c v n o a b = true then canon c v n o a b else [])) := by
  unfold spec_FormatStmt.f
  rw [sstmt c v n o a b k (by omega)]
  simp only [Option.bind_some]
  by_cases h : sok c v n o a b = true
  · rw [if_pos h, if_pos h]
    have hs := nums_small h
    have hi : ∀ x ∈ nums c v n o a b, i64 x := fun x hx => by have := hs x hx; unfold i64; omega
    unfold canon
    rcases sok_kind h with rfl | rfl | rfl | rfl | rfl | rfl
    · simp only [nums, if_true, List.mem_cons, List.not_mem_nil, or_false, forall_eq_or_imp, forall_eq] at hi
      have h1 := itoa_len hi.1.1 hi.1.2
      have h2 := spn_len hi.2.1
      have h3 := spn_len hi.2.2.1
      have h4 := spn_len hi.2.2.2
      rw [if_pos rfl, sfmt_tx hi.1 k hk, l04_tells hi.2.1 hi.2.2.1 hi.2.2.2 k hk]
      have e : (⟨#[115, 101, 116, 32]⟩ : ByteArray) = tx [115, 101, 116, 32] := rfl
      simp only [Option.bind_some, e, tx_app, tx_size, List.length_append, List.length_cons, List.length_nil, List.flatMap_cons, List.flatMap_nil]
      rw [if_pos (by omega), if_pos (by omega)]
      simp [nums, kw, spn]
    · simp [nums] at hi
      have h1 := itoa_len hi.1.1 hi.1.2
      have h2 := itoa_len hi.2.1 hi.2.2
      rw [if_neg (by omega), if_pos rfl, sfmt_tx hi.1 k hk, sfmt_tx hi.2 k hk]
      have e : (⟨#[115, 101, 110, 115, 101, 32]⟩ : ByteArray) = tx [115, 101, 110, 115, 101, 32] := rfl
      have e2 : (⟨#[32]⟩ : ByteArray) = tx [32] := rfl
      simp only [Option.bind_some, e, e2, tx_app, tx_size, List.length_append, List.length_cons, List.length_nil]
      rw [if_pos (by omega), if_pos (by omega), if_pos (by omega)]
      simp [nums, kw, spn]
    · simp [nums] at hi
      have h2 := spn_len hi.1
      have h3 := spn_len hi.2.1
      have h4 := spn_len hi.2.2
      rw [if_neg (by omega), if_neg (by omega), if_pos rfl, l04_tells hi.1 hi.2.1 hi.2.2 k hk]
      have e : (⟨#[115, 101, 110, 100]⟩ : ByteArray) = tx [115, 101, 110, 100] := rfl
      simp only [Option.bind_some, e, tx_app, tx_size, List.length_append, List.length_cons, List.length_nil, List.flatMap_cons, List.flatMap_nil]
      rw [if_pos (by omega)]
      simp [nums, kw, spn]
    · simp [nums] at hi
      have h2 := spn_len hi.1
      have h3 := spn_len hi.2.1
      have h4 := spn_len hi.2.2
      rw [if_neg (by omega), if_neg (by omega), if_neg (by omega), if_pos rfl, l04_tells hi.1 hi.2.1 hi.2.2 k hk]
      have e : (⟨#[105, 102]⟩ : ByteArray) = tx [105, 102] := rfl
      simp only [Option.bind_some, e, tx_app, tx_size, List.length_append, List.length_cons, List.length_nil, List.flatMap_cons, List.flatMap_nil]
      rw [if_pos (by omega)]
      simp [nums, kw, spn]
    · simp [nums] at hi
      have h1 := itoa_len hi.1 hi.2
      rw [if_neg (by omega), if_neg (by omega), if_neg (by omega), if_neg (by omega), if_pos rfl, sfmt_tx hi k hk]
      have e : (⟨#[108, 111, 111, 112, 32]⟩ : ByteArray) = tx [108, 111, 111, 112, 32] := rfl
      simp only [Option.bind_some, e, tx_app, tx_size, List.length_append, List.length_cons, List.length_nil]
      rw [if_pos (by omega)]
      simp [nums, kw, spn]
    · rw [if_neg (by omega), if_neg (by omega), if_neg (by omega), if_neg (by omega), if_neg (by omega)]
      rfl
  · rw [if_neg h, if_neg h]; rfl
theorem FnExactFormatStmt : laws_FnExactFormatStmt.Pure := by
  intro c v n o a b _ _ _ _ _ _
  refine ⟨40, ?_⟩
  unfold laws_FnExactFormatStmt.f laws_toStmt.f laws_toExpr.f
  simp only [Option.bind_some]
  rw [sformat c v n o a b 40 (by omega), iformat c v n o a b 40 (by omega)]
  simp

end Go.Proofs.YtcpmkcidehhbiaaDoor.Pure
