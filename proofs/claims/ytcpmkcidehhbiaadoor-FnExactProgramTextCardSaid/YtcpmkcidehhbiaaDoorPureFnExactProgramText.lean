/- The program's ProgramText and the reference's return the same text for all programs, and leave them as they were; the row's tables of the library hold what the card ties. -/
import Derived.Test.YtcpmkcidehhbiaaDoorPFnExactProgramTextx12
import Derived.Laws.Concat
import Derived.Laws.Strings
import Derived.Lib.ItoaMem
namespace Go.Proofs.YtcpmkcidehhbiaaDoor.Pure
open Go.RowKit Go.Proofs.YtcpmkcidehhbiaaDoor.PFnExactProgramText Go.Proofs.YtcpmkcidehhbiaaDoorW.PrintWords Go.Proofs.YtcpmkcidehhbiaaDoorW.PrintLast
set_option linter.unusedVariables false
set_option linter.unusedSimpArgs false

theorem w64 {n : Int} (h1 : -9223372036854775808 ≤ n) (h2 : n ≤ 9223372036854775807) : wrap64 n = n := by unfold wrap64; omega
theorem w64_in (n : Int) : -9223372036854775808 ≤ wrap64 n ∧ wrap64 n ≤ 9223372036854775807 := by unfold wrap64; omega
theorem wf64 {n : Int} (h : (Lit.int .i64 n).wf = true) : -9223372036854775808 ≤ n ∧ n ≤ 9223372036854775807 := by
  simp only [Lit.wf, IntKind.min, IntKind.max, IntKind.signed, IntKind.bits, Bool.and_eq_true, decide_eq_true_eq, if_true] at h
  omega
theorem wfu8 {n : Int} (h : (Lit.int .u8 n).wf = true) : 0 ≤ n ∧ n ≤ 255 := by
  simp [Lit.wf, IntKind.min, IntKind.max, IntKind.signed, IntKind.bits] at h
  omega
theorem and_in (x : Int) (m : Nat) (hm : m < 9223372036854775808) : 0 ≤ Go.bits .and .i64 x (m : Int) ∧ Go.bits .and .i64 x (m : Int) ≤ m := by
  have h1 : (BitVec.ofInt 64 x &&& BitVec.ofInt 64 (m : Int)).toNat ≤ m := by
    rw [BitVec.toNat_and]
    refine Nat.le_trans Nat.and_le_right ?_
    rw [BitVec.ofInt_natCast, BitVec.toNat_ofNat]
    exact Nat.mod_le _ _
  have h2 : Go.bits .and .i64 x (m : Int) = IntKind.i64.wrap (((BitVec.ofInt 64 x &&& BitVec.ofInt 64 (m : Int)).toNat : Nat) : Int) := rfl
  rw [h2, Go.IntKind.wrap_i64]
  omega
theorem and255 (x : Int) : 0 ≤ Go.bits .and .i64 x 255 ∧ Go.bits .and .i64 x 255 ≤ 255 := and_in x 255 (by decide)
theorem tmod_in (x n : Int) (h0 : 0 ≤ x) (h : 1 ≤ n) : 0 ≤ Int.tmod x n ∧ Int.tmod x n < n := ⟨Int.tmod_nonneg _ h0, Int.tmod_lt_of_pos _ (by omega)⟩
/-- A text out of its bytes. -/
def tx (l : List UInt8) : ByteArray := ⟨l.toArray⟩
theorem tx_size (l : List UInt8) : (tx l).size = l.length := by simp [tx, ByteArray.size]
theorem tx_list (l : List UInt8) : (tx l).data.toList = l := rfl
theorem tx_app (a b : List UInt8) : tx a ++ tx b = tx (a ++ b) := by unfold tx; exact ByteArray.mk_append_mk _ _
theorem tx_back (s : ByteArray) : tx s.data.toList = s := by cases s; simp [tx]
theorem size_tl (s : ByteArray) : s.size = s.data.toList.length := (Array.length_toList).symm
theorem tl_eq (a b : ByteArray) : a.toList = b.toList ↔ a.data.toList = b.data.toList := by rw [ByteArray.toList_eq, ByteArray.toList_eq]
theorem tx_inj (a b : List UInt8) : tx a = tx b ↔ a = b := by
  constructor
  · intro h
    have := congrArg (fun s : ByteArray => s.data.toList) h
    simpa [tx] using this
  · rintro rfl; rfl
theorem bt_tx (s : ByteArray) (pre : List UInt8) (c : UInt8) (u : List UInt8) (h : s.data.toList = pre ++ c :: u) : bt s (pre.length : Int) = (c.toNat : Int) := by
  have hl : s.data.toList.length = pre.length + (u.length + 1) := by rw [h]; simp
  have hz : pre.length < s.size := by have := size_tl s; omega
  unfold bt
  rw [dif_pos (by simpa using hz)]
  have e : s[((pre.length : Nat) : Int).toNat]'(by simpa using hz) = s.data.toList[pre.length]'(by omega) := by simp [ByteArray.getElem_eq_getElem_data]
  rw [e]
  have e2 : s.data.toList[pre.length]'(by omega) = c := by simp only [h]; simp
  rw [e2]
theorem nd_le : ∀ (k u : Nat), u < 10 ^ (k + 1) → Lib.nDigits u ≤ k + 1 := by
  intro k
  induction k with
  | zero => intro u hu; rw [Lib.nDigits_small (by simpa using hu)]; omega
  | succ k ih =>
    intro u hu
    by_cases c : u < 10
    · rw [Lib.nDigits_small c]; omega
    · rw [Lib.nDigits_big c]
      have := ih (u / 10) (by rw [Nat.pow_succ] at hu; omega)
      omega
theorem itoa_len {n : Int} (h0 : -9223372036854775808 ≤ n) (h1 : n ≤ 9223372036854775807) : (Lib.itoa n).length ≤ 20 := by
  have hp : (9223372036854775808 : Nat) < 10 ^ 19 := by decide
  unfold Lib.itoa
  split
  · rw [List.length_cons, Lib.decDigits_length]
    have := nd_le 18 n.natAbs (by show n.natAbs < 10 ^ 19; omega)
    omega
  · rw [Lib.decDigits_length]
    have := nd_le 18 n.toNat (by show n.toNat < 10 ^ 19; omega)
    omega
/-- The digits of u, none of nought. -/
def dgs (u : Nat) : List UInt8 := if u = 0 then [] else Lib.decDigits u
theorem dgs_step (u : Nat) (h : 1 ≤ u) : dgs u = dgs (u / 10) ++ [UInt8.ofNat (48 + u % 10)] := by
  unfold dgs
  rw [if_neg (by omega)]
  by_cases c : u < 10
  · rw [Lib.decDigits_one c, if_pos (by omega)]
    rw [show u % 10 = u by omega]; rfl
  · rw [if_neg (by omega)]
    conv => lhs; rw [Lib.decDigits, dif_neg c]
theorem fig1 (v : Nat) (h : v < 10) : spec_l01Figure.f (v : Int) = some (((48 + v : Nat) : Int)) := by
  unfold spec_l01Figure.f
  rw [if_pos (by omega), w64 (by omega) (by omega)]
  congr 1; omega
theorem fmt_loop (b : Bool) (k : Nat) : ∀ (x : Int) (u : Nat) (l : List UInt8), x = u ∨ x = -(u : Int) → u < 10 ^ k → u ≤ 9223372036854775808 → l.length + k ≤ 40 → x ≤ 9223372036854775807 →
    spec_FormatInt.l0 (k + 1) x b ⟨l.toArray⟩ = some (if b = true then ⟨(45 :: (dgs u ++ l)).toArray⟩ else ⟨(dgs u ++ l).toArray⟩) := by
  induction k with
  | zero =>
    intro x u l hx hu _ hl _
    have h0 : u = 0 := by simpa using hu
    have hx0 : x = 0 := by omega
    simp only [spec_FormatInt.l0]
    rw [if_pos hx0, h0]
    have hz : (ByteArray.mk l.toArray).size = l.length := by simp [ByteArray.size]
    have e : (⟨#[45]⟩ : ByteArray) ++ ⟨l.toArray⟩ = ⟨(45 :: l).toArray⟩ := ByteArray.mk_append_mk [45] l
    have hc : 1 + (ByteArray.mk l.toArray).size ≤ 9223372036854775807 := by rw [hz]; omega
    rw [e, if_pos hc]
    have : dgs 0 ++ l = l := rfl
    rw [this]
    cases b <;> rfl
  | succ k ih =>
    intro x u l hx hu hu2 hl hx2
    obtain ⟨m, hm⟩ : ∃ m, m = k + 1 := ⟨_, rfl⟩
    rw [← hm] at ih ⊢
    have hz : (ByteArray.mk l.toArray).size = l.length := by simp [ByteArray.size]
    by_cases h0 : u = 0
    · have hx0 : x = 0 := by omega
      simp only [spec_FormatInt.l0]
      rw [if_pos hx0, h0]
      have e : (⟨#[45]⟩ : ByteArray) ++ ⟨l.toArray⟩ = ⟨(45 :: l).toArray⟩ := ByteArray.mk_append_mk [45] l
      have hc : 1 + (ByteArray.mk l.toArray).size ≤ 9223372036854775807 := by rw [hz]; omega
      rw [e, if_pos hc]
      have : dgs 0 ++ l = l := rfl
      rw [this]
      cases b <;> rfl
    · have hs := dgs_step u (by omega)
      have hv : u % 10 < 10 := Nat.mod_lt _ (by omega)
      have hd : u / 10 < 10 ^ k := by rw [Nat.div_lt_iff_lt_mul (by omega)]; rw [Nat.pow_succ] at hu; exact hu
      have hS : strOfNums [((48 + u % 10 : Nat) : Int)] = ⟨[UInt8.ofNat (48 + u % 10)].toArray⟩ := by unfold strOfNums; rw [List.map_cons, List.map_nil, Int.toNat_natCast]
      have e : strOfNums [((48 + u % 10 : Nat) : Int)] ++ (⟨l.toArray⟩ : ByteArray) = ⟨(UInt8.ofNat (48 + u % 10) :: l).toArray⟩ := by rw [hS]; exact ByteArray.mk_append_mk _ l
      have hsz : (strOfNums [((48 + u % 10 : Nat) : Int)]).size = 1 := by rw [strOfNums_size]; rfl
      have ht : dgs (u / 10) ++ (UInt8.ofNat (48 + u % 10) :: l) = dgs u ++ l := by rw [hs]; simp
      simp only [spec_FormatInt.l0]
      rw [if_neg (by omega)]
      rcases hx with hx | hx
      · have h1 : Int.tmod x 10 = ((u % 10 : Nat) : Int) := by rw [hx, Int.tmod_eq_emod_of_nonneg (by omega)]; rfl
        have h2 : Int.tdiv x 10 = ((u / 10 : Nat) : Int) := by rw [hx, Int.tdiv_eq_ediv_of_nonneg (by omega)]; rfl
        rw [h1, h2, if_neg (by omega), fig1 _ hv]
        simp only [Option.bind_some]
        rw [hsz, hz, if_pos (by omega), w64 (by omega) (by omega), e, ih _ (u / 10) _ (Or.inl rfl) hd (by omega) (by simp only [List.length_cons]; omega) (by omega), ht]
      · have h1 : Int.tmod x 10 = -((u % 10 : Nat) : Int) := by rw [hx, Int.neg_tmod, Int.tmod_eq_emod_of_nonneg (by omega)]; rfl
        have h2 : Int.tdiv x 10 = -((u / 10 : Nat) : Int) := by rw [hx, Int.neg_tdiv, Int.tdiv_eq_ediv_of_nonneg (by omega)]; rfl
        rw [h1, h2]
        by_cases c : u % 10 = 0
        · have hf := fig1 0 (by omega)
          rw [if_neg (by omega), c, show -((0 : Nat) : Int) = ((0 : Nat) : Int) from rfl, hf]
          simp only [Option.bind_some]
          rw [c] at hsz e ht
          rw [hsz, hz, if_pos (by omega), w64 (by omega) (by omega), e, ih _ (u / 10) _ (Or.inr rfl) hd (by omega) (by simp only [List.length_cons]; omega) (by omega), ht]
        · rw [if_pos (by omega), w64 (n := - -((u % 10 : Nat) : Int)) (by omega) (by omega), Int.neg_neg, fig1 _ hv]
          simp only [Option.bind_some]
          rw [hsz, hz, if_pos (by omega), w64 (by omega) (by omega), e, ih _ (u / 10) _ (Or.inr rfl) hd (by omega) (by simp only [List.length_cons]; omega) (by omega), ht]
theorem sfmt (n : Int) (h0 : -9223372036854775808 ≤ n) (h1 : n ≤ 9223372036854775807) (k : Nat) (hk : 20 ≤ k) : spec_FormatInt.f k n = some ⟨(Lib.itoa n).toArray⟩ := by
  have hp : (9223372036854775808 : Nat) < 10 ^ 19 := by decide
  unfold spec_FormatInt.f Lib.itoa
  by_cases c : n = 0
  · rw [if_pos c, c, if_neg (by omega), show (0 : Int).toNat = 0 from rfl, Lib.decDigits_one (by omega)]; rfl
  · rw [if_neg c]
    have h := fmt_loop (decide (n < 0)) 19 n n.natAbs [] (by omega) (by omega) (by omega) (by simp) h1
    have e : (⟨#[]⟩ : ByteArray) = ⟨([] : List UInt8).toArray⟩ := rfl
    rw [e, at_rounds (fun k => spec_FormatInt.mono_l k _ _ _) (by omega : 19 + 1 ≤ k) h, List.append_nil]
    have hd : dgs n.natAbs = Lib.decDigits n.natAbs := by unfold dgs; rw [if_neg (by omega)]
    rw [hd]
    by_cases d : n < 0
    · rw [if_pos (decide_eq_true d), if_pos d]
    · rw [if_neg (by simp; omega), if_neg d, show n.natAbs = n.toNat by omega]
theorem ifmt (n : Int) (h0 : -9223372036854775808 ≤ n) (h1 : n ≤ 9223372036854775807) : impl_FormatInt.f n = some ⟨(Lib.itoa n).toArray⟩ := by
  unfold impl_FormatInt.f
  rw [if_pos ⟨h0, h1⟩]
theorem in_eq (a b c : Int) : spec_l01In.f a b c = some (decide (b ≤ a ∧ a ≤ c)) := by
  unfold spec_l01In.f
  by_cases h : a ≥ b
  · rw [if_pos h]; simp; omega
  · rw [if_neg h]; simp; omega
theorem within_eq (a b c : Int) : impl_within.f a b c = some (decide (b ≤ a ∧ a ≤ c)) := by
  unfold impl_within.f
  by_cases h : a ≥ b
  · rw [if_pos h]; simp; omega
  · rw [if_neg h]; simp; omega
/-- A valid expression. -/
def eok (o a b : Int) : Bool := decide (1 ≤ o ∧ o ≤ 7) && (decide (-8 ≤ a ∧ a ≤ 999) && decide (-8 ≤ b ∧ b ≤ 999))
theorem iexpr (o a b : Int) : impl_ExprOk.f o a b = some (eok o a b) := by
  unfold impl_ExprOk.f impl_OperandOk.f eok
  simp only [within_eq, Option.bind_some]
  cases decide (1 ≤ o ∧ o ≤ 7) <;> cases decide (-8 ≤ a ∧ a ≤ 999) <;> simp
theorem eok_in {o a b : Int} (h : eok o a b = true) : (1 ≤ o ∧ o ≤ 7) ∧ (-8 ≤ a ∧ a ≤ 999) ∧ (-8 ≤ b ∧ b ≤ 999) := by
  unfold eok at h
  simp only [Bool.and_eq_true, decide_eq_true_eq] at h
  exact h
theorem sexpr (o a b : Int) : spec_ExprOk.f o a b = some (eok o a b) := by
  unfold spec_ExprOk.f spec_OperandOk.f eok
  simp only [in_eq, Option.bind_some]
  cases decide (1 ≤ o ∧ o ≤ 7) <;> cases decide (-8 ≤ a ∧ a ≤ 999) <;> simp
/-- A valid statement. -/
def zok (o a b : Int) : Bool := decide (o = 0) && (decide (a = 0) && decide (b = 0))
def sok (c v n o a b : Int) : Bool :=
  if c = 1 then decide (0 ≤ v ∧ v ≤ 7) && (decide (n = 0) && eok o a b)
  else if c = 2 then decide (0 ≤ v ∧ v ≤ 7) && (decide (0 ≤ n ∧ n ≤ 3) && zok o a b)
  else if c = 3 then decide (v = 0) && (decide (n = 0) && eok o a b)
  else if c = 4 then decide (v = 0) && (decide (n = 0) && eok o a b)
  else if c = 5 then decide (v = 0) && (decide (1 ≤ n ∧ n ≤ 5) && zok o a b)
  else if c = 6 then decide (v = 0) && (decide (n = 0) && zok o a b)
  else false
theorem hasVar_eq (c : Int) : impl_hasVar.f c = some (decide (c = 1 ∨ c = 2)) := by
  unfold impl_hasVar.f
  by_cases h : c = 1
  · rw [if_pos h]; simp [h]
  · rw [if_neg h]; simp [h]; rfl
theorem hasExpr_eq (c : Int) : impl_hasExpr.f c = some (decide (c = 1 ∨ c = 3 ∨ c = 4)) := by
  unfold impl_hasExpr.f
  by_cases h : c = 1
  · rw [if_pos h]; simp [h]
  · rw [if_neg h]
    by_cases h2 : c = 3
    · rw [if_pos h2]; simp [h2]
    · rw [if_neg h2]; simp [h, h2]; rfl
theorem isVar_eq (v : Int) : impl_isVar.f v = some (decide (0 ≤ v ∧ v ≤ 7)) := by
  unfold impl_isVar.f; rw [within_eq]; rfl
theorem isSensor_eq (v : Int) : impl_isSensor.f v = some (decide (0 ≤ v ∧ v ≤ 3)) := by
  unfold impl_isSensor.f; rw [within_eq]; rfl
theorem istmt (c v n o a b : Int) (k : Nat) (hk : 2 ≤ k) : impl_StmtOk.f k c v n o a b = some (sok c v n o a b) := by
  obtain ⟨k, rfl⟩ : ∃ m, k = m + 2 := ⟨k - 2, by omega⟩
  unfold impl_StmtOk.f sok zok
  simp only [within_eq, hasVar_eq, isVar_eq, hasExpr_eq, isSensor_eq, iexpr, Option.bind_some, impl_StmtOk.j0, impl_StmtOk.j1]
  by_cases h1 : c = 1
  · subst h1
    cases decide (0 ≤ v ∧ v ≤ 7) <;> cases eok o a b <;> by_cases hn : n = 0 <;> simp [hn]
  · by_cases h2 : c = 2
    · subst h2
      cases decide (0 ≤ v ∧ v ≤ 7) <;> cases decide (0 ≤ n ∧ n ≤ 3) <;> by_cases ho : o = 0 <;> by_cases ha : a = 0 <;> by_cases hb : b = 0 <;> simp [ho, ha, hb]
    · by_cases h3 : c = 3
      · subst h3
        cases eok o a b <;> by_cases hn : n = 0 <;> by_cases hv : v = 0 <;> simp [hn, hv]
      · by_cases h4 : c = 4
        · subst h4
          cases eok o a b <;> by_cases hn : n = 0 <;> by_cases hv : v = 0 <;> simp [hn, hv]
        · by_cases h5 : c = 5
          · subst h5
            cases decide (1 ≤ n ∧ n ≤ 5) <;> by_cases hv : v = 0 <;> by_cases ho : o = 0 <;> by_cases ha : a = 0 <;> by_cases hb : b = 0 <;> simp [hv, ho, ha, hb]
          · by_cases h6 : c = 6
            · subst h6
              by_cases hn : n = 0 <;> by_cases hv : v = 0 <;> by_cases ho : o = 0 <;> by_cases ha : a = 0 <;> by_cases hb : b = 0 <;> simp [hn, hv, ho, ha, hb]
            · have hw : ¬ (1 ≤ c ∧ c ≤ 6) := by omega
              simp [h1, h2, h3, h4, h5, h6, hw]
theorem sstmt (c v n o a b : Int) (k : Nat) (hk : 2 ≤ k) : spec_StmtOk.f k c v n o a b = some (sok c v n o a b) := by
  obtain ⟨k, rfl⟩ : ∃ m, k = m + 2 := ⟨k - 2, by omega⟩
  unfold spec_StmtOk.f spec_l04Plain.f sok zok
  simp only [in_eq, sexpr, Option.bind_some, spec_StmtOk.j0]
  by_cases h1 : c = 1
  · subst h1
    cases decide (0 ≤ v ∧ v ≤ 7) <;> cases eok o a b <;> by_cases hn : n = 0 <;> simp [hn]
  · by_cases h2 : c = 2
    · subst h2
      cases decide (0 ≤ v ∧ v ≤ 7) <;> cases decide (0 ≤ n ∧ n ≤ 3) <;> by_cases ho : o = 0 <;> by_cases ha : a = 0 <;> by_cases hb : b = 0 <;> simp [ho, ha, hb]
    · by_cases h3 : c = 3
      · subst h3
        cases eok o a b <;> by_cases hn : n = 0 <;> by_cases hv : v = 0 <;> simp [hn, hv]
      · by_cases h4 : c = 4
        · subst h4
          cases eok o a b <;> by_cases hn : n = 0 <;> by_cases hv : v = 0 <;> simp [hn, hv]
        · by_cases h5 : c = 5
          · subst h5
            cases decide (1 ≤ n ∧ n ≤ 5) <;> by_cases hv : v = 0 <;> by_cases ho : o = 0 <;> by_cases ha : a = 0 <;> by_cases hb : b = 0 <;> simp [hv, ho, ha, hb]
          · by_cases h6 : c = 6
            · subst h6
              by_cases hn : n = 0 <;> by_cases hv : v = 0 <;> by_cases ho : o = 0 <;> by_cases ha : a = 0 <;> by_cases hb : b = 0 <;> simp [hn, hv, ho, ha, hb]
            · by_cases hn : n = 0 <;> by_cases hv : v = 0 <;> by_cases ho : o = 0 <;> by_cases ha : a = 0 <;> by_cases hb : b = 0 <;> simp [h1, h2, h3, h4, h5, h6, hn, hv, ho, ha, hb]
theorem rd_app (pre : List S27) (a : S27) (t : List S27) : rd_T27 (pre ++ a :: t) (pre.length : Int) = a := by
  unfold rd_T27
  simp [List.getD]
def okS (s : S27) : Bool := sok s.f0 s.f1 s.f2 s.f3.f0 s.f3.f1 s.f3.f2
def opn (s : S27) : Bool := decide (s.f0 = 4 ∨ s.f0 = 5)
def del (s : S27) : Int := if s.f0 = 4 ∨ s.f0 = 5 then 1 else if s.f0 = 6 then -1 else 0
theorem del_in (s : S27) : -1 ≤ del s ∧ del s ≤ 1 := by unfold del; split <;> (try split) <;> omega
def scan : List S27 → Int → Option Int
  | [], d => some d
  | s :: t, d => if okS s = true then (if 0 ≤ d + del s ∧ d + del s ≤ 3 then scan t (d + del s) else none) else none
def fin (o : Option Int) (n : Nat) : Bool := decide (o = some 0) && decide (n ≤ 24)
/-- Whether the statements are a valid block. -/
def blk (l : List S27) : Bool := fin (scan l 0) l.length
theorem opening_eq (c : Int) : impl_isOpening.f c = some (decide (c = 4 ∨ c = 5)) := by
  unfold impl_isOpening.f
  by_cases h : c = 4
  · simp [h]
  · rw [if_neg h]; congr 1; rw [Bool.eq_iff_iff]; simp [h]
theorem iscan (suf : List S27) : ∀ (k : Nat) (pre x : List S27) (d : Int), x = pre ++ suf → x.length ≤ 140737488351232 → 2 * suf.length + 4 ≤ k → 0 ≤ d → d ≤ 3 →
    impl_BlockOk.l0 k x d x (x.length : Int) (pre.length : Int) = some (fin (scan suf d) x.length) := by
  induction suf with
  | nil =>
    intro k pre x d hx hz hk d0 d1
    obtain ⟨k, rfl⟩ : ∃ m, k = m + 1 := ⟨k - 1, by omega⟩
    have hl : x.length = pre.length := by simp [hx]
    unfold impl_BlockOk.l0
    rw [if_neg (by omega)]
    unfold scan fin
    by_cases c : d = 0
    · rw [if_pos c, c]; congr 1; simp; omega
    · rw [if_neg c]; simp [c]
  | cons a t ih =>
    intro k pre x d hx hz hk d0 d1
    simp only [List.length_cons] at hk
    obtain ⟨k, rfl⟩ : ∃ m, k = m + 2 := ⟨k - 2, by omega⟩
    have hl : x.length = pre.length + (t.length + 1) := by simp [hx]
    have hr : rd_T27 x (pre.length : Int) = a := by rw [hx]; exact rd_app pre a t
    have hn : ((pre.length : Int) + 1) = (((pre ++ [a]).length : Nat) : Int) := by simp
    unfold impl_BlockOk.l0
    rw [if_pos (by omega), if_pos (by omega), if_pos (by omega)]
    simp only [hr]
    rw [istmt _ _ _ _ _ _ _ (by omega)]
    simp only [Option.bind_some]
    have hs : ∀ e, scan (a :: t) e = if okS a = true then (if 0 ≤ e + del a ∧ e + del a ≤ 3 then scan t (e + del a) else none) else none := fun e => rfl
    rw [hs]
    by_cases ok : okS a = true
    · rw [if_pos ok]
      unfold okS at ok
      rw [if_pos ok, opening_eq]
      simp only [Option.bind_some, decide_eq_true_eq]
      have step : ∀ e : Int, 0 ≤ e → e ≤ 3 → impl_BlockOk.l0 k x e x (x.length : Int) (wrap64 ((pre.length : Int) + 1)) = some (fin (scan t e) x.length) := by
        intro e e0 e1
        rw [w64 (by omega) (by omega), hn]
        exact ih k (pre ++ [a]) x e (by simp [hx]) hz (by omega) e0 e1
      by_cases o : a.f0 = 4 ∨ a.f0 = 5
      · have hd : del a = 1 := by unfold del; rw [if_pos o]
        rw [if_pos o, hd, w64 (n := d + 1) (by omega) (by omega)]
        unfold impl_BlockOk.j1
        rw [if_neg (by omega), if_neg (by omega)]
        by_cases c : d + 1 > 3
        · rw [if_pos c, if_neg (by omega)]; simp [fin]
        · rw [if_neg c, if_pos (by omega)]
          exact step _ (by omega) (by omega)
      · rw [if_neg o]
        unfold impl_BlockOk.j1
        by_cases c6 : a.f0 = 6
        · have hd : del a = -1 := by unfold del; rw [if_neg o, if_pos c6]
          rw [if_pos c6, hd, w64 (n := d - 1) (by omega) (by omega)]
          by_cases c : d - 1 < 0
          · rw [if_pos c, if_neg (by omega)]; simp [fin]
          · rw [if_neg c, if_neg (by omega), if_pos (by omega)]
            exact step _ (by omega) (by omega)
        · have hd : del a = 0 := by unfold del; rw [if_neg o, if_neg c6]
          rw [if_neg c6, hd, if_neg (by omega), if_neg (by omega), if_pos (by omega), show d + 0 = d by omega]
          exact step _ (by omega) (by omega)
    · rw [if_neg ok]
      unfold okS at ok
      rw [if_neg ok]
      simp [fin]
theorem iblock (l : List S27) (hz : l.length ≤ 140737488351232) (k : Nat) (hk : 2 * l.length + 4 ≤ k) : impl_BlockOk.f k l = some (blk l) :=
  iscan l k [] l 0 rfl hz hk (by omega) (by omega)
theorem sscan (suf : List S27) : ∀ (k : Nat) (pre x : List S27) (d : Int), x = pre ++ suf → x.length ≤ 140737488351232 → 2 * suf.length + 4 ≤ k → 0 ≤ d → d ≤ 3 →
    spec_BlockOk.l0 k x d (pre.length : Int) = some (fin (scan suf d) x.length) := by
  induction suf with
  | nil =>
    intro k pre x d hx hz hk d0 d1
    obtain ⟨k, rfl⟩ : ∃ m, k = m + 1 := ⟨k - 1, by omega⟩
    have hl : x.length = pre.length := by simp [hx]
    unfold spec_BlockOk.l0
    rw [if_neg (by omega)]
    unfold scan fin
    by_cases c : d = 0
    · rw [if_pos c, c]; congr 1; simp; omega
    · rw [if_neg c]; simp [c]
  | cons a t ih =>
    intro k pre x d hx hz hk d0 d1
    simp only [List.length_cons] at hk
    obtain ⟨k, rfl⟩ : ∃ m, k = m + 2 := ⟨k - 2, by omega⟩
    have hl : x.length = pre.length + (t.length + 1) := by simp [hx]
    have hr : rd_T27 x (pre.length : Int) = a := by rw [hx]; exact rd_app pre a t
    have hn : ((pre.length : Int) + 1) = (((pre ++ [a]).length : Nat) : Int) := by simp
    unfold spec_BlockOk.l0
    rw [if_pos (by omega), if_pos (by omega)]
    simp only [hr]
    rw [sstmt _ _ _ _ _ _ _ (by omega)]
    simp only [Option.bind_some]
    have hs : ∀ e, scan (a :: t) e = if okS a = true then (if 0 ≤ e + del a ∧ e + del a ≤ 3 then scan t (e + del a) else none) else none := fun e => rfl
    rw [hs]
    by_cases ok : okS a = true
    · rw [if_pos ok]
      unfold okS at ok
      rw [if_pos ok]
      have step : ∀ e : Int, 0 ≤ e → e ≤ 3 → spec_BlockOk.l0 k x e (wrap64 ((pre.length : Int) + 1)) = some (fin (scan t e) x.length) := by
        intro e e0 e1
        rw [w64 (by omega) (by omega), hn]
        exact ih k (pre ++ [a]) x e (by simp [hx]) hz (by omega) e0 e1
      have hj : ∀ b : Bool, b = decide (a.f0 = 4 ∨ a.f0 = 5) → spec_BlockOk.j1 (k + 1) x d (pre.length : Int) a.f0 b = some (fin (if 0 ≤ d + del a ∧ d + del a ≤ 3 then scan t (d + del a) else none) x.length) := by
        intro b hb
        unfold spec_BlockOk.j1
        by_cases o : a.f0 = 4 ∨ a.f0 = 5
        · have hd : del a = 1 := by unfold del; rw [if_pos o]
          rw [if_pos (by rw [hb]; exact decide_eq_true o), hd, w64 (n := d + 1) (by omega) (by omega), in_eq]
          simp only [Option.bind_some, decide_eq_true_eq]
          by_cases c : 0 ≤ d + 1 ∧ d + 1 ≤ 3
          · rw [if_pos c, if_pos c]; exact step _ c.1 c.2
          · rw [if_neg c, if_neg c]; simp [fin]
        · rw [if_neg (by rw [hb]; simp; omega)]
          by_cases c6 : a.f0 = 6
          · have hd : del a = -1 := by unfold del; rw [if_neg o, if_pos c6]
            rw [if_pos c6, hd, w64 (n := d - 1) (by omega) (by omega), in_eq, show d + -1 = d - 1 by omega]
            simp only [Option.bind_some, decide_eq_true_eq]
            by_cases c : 0 ≤ d - 1 ∧ d - 1 ≤ 3
            · rw [if_pos c, if_pos c]; exact step _ c.1 c.2
            · rw [if_neg c, if_neg c]; simp [fin]
          · have hd : del a = 0 := by unfold del; rw [if_neg o, if_neg c6]
            rw [if_neg c6, hd, in_eq, show d + 0 = d by omega]
            simp only [Option.bind_some, decide_eq_true_eq]
            rw [if_pos ⟨d0, d1⟩, if_pos ⟨d0, d1⟩]; exact step _ d0 d1
      by_cases c4 : a.f0 = 4
      · rw [if_pos c4]
        exact hj _ (by simp [c4])
      · rw [if_neg c4]
        exact hj _ (by rw [Bool.eq_iff_iff]; simp [c4])
    · rw [if_neg ok]
      unfold okS at ok
      rw [if_neg ok]
      simp [fin]
theorem sblock (l : List S27) (hz : l.length ≤ 140737488351232) (k : Nat) (hk : 2 * l.length + 4 ≤ k) : spec_BlockOk.f k l = some (blk l) :=
  sscan l k [] l 0 rfl hz hk (by omega) (by omega)
def cnv (s : S44) : S27 := ⟨s.f0, s.f1, s.f2, ⟨s.f3.f0, s.f3.f1, s.f3.f2⟩⟩
theorem rdc (xs : List S44) (i : Int) (h0 : 0 ≤ i) (h1 : i < (xs.length : Int)) : (xs.map cnv)[i.toNat]? = some (cnv (rd_T44 xs i)) := by
  have h : i.toNat < xs.length := by omega
  unfold rd_T44
  rw [List.getElem?_map, List.getD_eq_getElem?_getD, List.getElem?_eq_getElem h]
  rfl
theorem toStmt_loop (l : List S44) (sz : (l.length : Int) ≤ 140737488351232) (d : Nat) : ∀ (k : Nat) (x : List S27) (i : Int), 0 ≤ i → i ≤ l.length → (l.length : Int) - i = d → d < k → x.length = l.length → (∀ j : Nat, (j : Int) < i → x[j]? = (l.map cnv)[j]?) →
    laws_toStmtS.l0 k l x i = some (l.map cnv) := by
  induction d with
  | zero =>
    intro k x i h0 h1 hd hk hl hx
    obtain ⟨k, rfl⟩ : ∃ m, k = m + 1 := ⟨k - 1, by omega⟩
    simp only [laws_toStmtS.l0]
    rw [if_neg (by omega)]
    congr 1
    apply List.ext_getElem?
    intro j
    by_cases hj : (j : Int) < i
    · exact hx j hj
    · rw [List.getElem?_eq_none (by omega), List.getElem?_eq_none (by simp; omega)]
  | succ d ih =>
    intro k x i h0 h1 hd hk hl hx
    obtain ⟨k, rfl⟩ : ∃ m, k = m + 1 := ⟨k - 1, by omega⟩
    simp only [laws_toStmtS.l0, laws_toStmt.f, laws_toExpr.f, Option.bind_some]
    rw [if_pos (by omega), if_pos h0, if_pos (by omega), w64 (n := i + 1) (by omega) (by omega)]
    refine ih k _ (i + 1) (by omega) (by omega) (by omega) (by omega) (by simp [hl]) ?_
    intro j hj
    by_cases e : (j : Int) = i
    · have e2 : j = i.toNat := by omega
      subst e2
      rw [rdc l i h0 (by omega), List.getElem?_set_self (by omega)]
      rfl
    · rw [List.getElem?_set_ne (by omega)]
      exact hx j (by omega)
theorem toStmt_tells (l : List S44) (h : (l.length : Int) ≤ 1048576) : ∀ k, l.length < k → laws_toStmtS.f k l = some (l.map cnv) := by
  intro k hk
  unfold laws_toStmtS.f
  rw [if_pos (by omega), if_pos (by omega)]
  exact toStmt_loop l (by omega) l.length k _ 0 (by omega) (by omega) (by omega) hk (by simp) (fun j hj => by omega)
theorem eqStmt_loop (l : List S27) (sz : (l.length : Int) ≤ 140737488351232) (d : Nat) : ∀ (k : Nat) (i : Int), 0 ≤ i → i ≤ l.length → (l.length : Int) - i = d → d < k → laws_eqStmtS.l0 k l l i = some true := by
  induction d with
  | zero =>
    intro k i h0 h1 hd hk
    obtain ⟨k, rfl⟩ : ∃ m, k = m + 1 := ⟨k - 1, by omega⟩
    simp only [laws_eqStmtS.l0]
    rw [if_neg (by omega)]
  | succ d ih =>
    intro k i h0 h1 hd hk
    obtain ⟨k, rfl⟩ : ∃ m, k = m + 1 := ⟨k - 1, by omega⟩
    simp only [laws_eqStmtS.l0, laws_eqStmt.f, laws_eqExpr.f, if_true, Option.bind_some]
    rw [if_pos (by omega), if_pos h0, if_pos (by omega), w64 (n := i + 1) (by omega) (by omega)]
    exact ih k (i + 1) (by omega) (by omega) (by omega) (by omega)
theorem eqStmt_self (l : List S27) (sz : (l.length : Int) ≤ 140737488351232) : ∀ k, l.length < k → laws_eqStmtS.f k l l = some true := by
  intro k hk
  unfold laws_eqStmtS.f
  rw [if_pos rfl]
  exact eqStmt_loop l sz l.length k 0 (by omega) (by omega) (by omega) hk
theorem sz_tells (l : List S44) (hl : l.length ≤ maxLen) : ∃ t, laws_szStmtS.f l 1048576 = some t ∧ (t < 0 ∨ (l.length : Int) ≤ 1048576) := by
  have hm : (maxLen : Int) ≤ 9223372036854775807 := by decide
  unfold laws_szStmtS.f
  rw [w64 (by omega) (by omega)]
  by_cases c : 1048576 - (l.length : Int) < 0
  · rw [if_pos c]; exact ⟨-1, rfl, Or.inl (by omega)⟩
  · rw [if_neg c]; exact ⟨_, rfl, Or.inr (by omega)⟩
theorem rd_app62 (pre : List S99) (a : S99) (t : List S99) : rd_T99 (pre ++ a :: t) (pre.length : Int) = a := by
  unfold rd_T99
  simp [List.getD]
/-- A valid task. -/
def tok (s : S99) : Bool := blk s.f0 && eok s.f1.f0 s.f1.f1 s.f1.f2
/-- A valid program. -/
def pok (l : List S99) : Bool := decide (1 ≤ (l.length : Int) ∧ (l.length : Int) ≤ 6) && l.all tok
/-- Bodies that aren't longer than all that is asked. -/
def Small (l : List S99) : Prop := l.length ≤ 1048576 ∧ ∀ s ∈ l, s.f0.length ≤ 1048576
theorem itask (s : S99) (hz : s.f0.length ≤ 1048576) (k : Nat) (hk : 2097160 ≤ k) : impl_taskOk.f k s.f0 s.f1.f0 s.f1.f1 s.f1.f2 = some (tok s) := by
  unfold impl_taskOk.f tok
  rw [iblock s.f0 (by omega) k (by omega), iexpr]
  simp only [Option.bind_some]
  cases blk s.f0 <;> simp
theorem iprog_loop (suf : List S99) : ∀ (k : Nat) (pre x : List S99), x = pre ++ suf → Small x → suf.length + 2097162 ≤ k →
    impl_ProgramOk.l0 k x (pre.length : Int) = some (suf.all tok) := by
  induction suf with
  | nil =>
    intro k pre x hx hz hk
    obtain ⟨k, rfl⟩ : ∃ m, k = m + 1 := ⟨k - 1, by omega⟩
    have hl : x.length = pre.length := by simp [hx]
    simp only [impl_ProgramOk.l0]
    rw [if_neg (by omega)]
    rfl
  | cons a t ih =>
    intro k pre x hx hz hk
    simp only [List.length_cons] at hk
    obtain ⟨k, rfl⟩ : ∃ m, k = m + 1 := ⟨k - 1, by omega⟩
    have hl : x.length = pre.length + (t.length + 1) := by simp [hx]
    have hr : rd_T99 x (pre.length : Int) = a := by rw [hx]; exact rd_app62 pre a t
    have hn : ((pre.length : Int) + 1) = (((pre ++ [a]).length : Nat) : Int) := by simp
    simp only [impl_ProgramOk.l0]
    rw [if_pos (by omega), if_pos (by omega), hr, itask a (hz.2 a (by simp [hx])) k (by omega)]
    simp only [Option.bind_some, List.all_cons]
    by_cases c : tok a = true
    · rw [if_pos c, c, hn, ih k (pre ++ [a]) x (by simp [hx]) hz (by omega)]
      rfl
    · rw [if_neg c, Bool.eq_false_iff.mpr c]
      rfl
theorem iprog (x : List S99) (hz : Small x) (k : Nat) (hk : x.length + 2097162 ≤ k) : impl_ProgramOk.f k x = some (pok x) := by
  unfold impl_ProgramOk.f pok
  rw [within_eq]
  simp only [Option.bind_some]
  by_cases c : 1 ≤ (x.length : Int) ∧ (x.length : Int) ≤ 6
  · rw [decide_eq_true c, if_pos rfl]
    have := iprog_loop x k [] x rfl hz hk
    simp only [List.length_nil] at this
    rw [show ((0 : Nat) : Int) = 0 from rfl] at this
    rw [this, Bool.true_and]
  · rw [decide_eq_false c, if_neg (by simp), Bool.false_and]
theorem sprog_loop (suf : List S99) : ∀ (k : Nat) (pre x : List S99), x = pre ++ suf → Small x → suf.length + 2097162 ≤ k →
    spec_ProgramOk.l0 k (pre.length : Int) x = some (decide (1 ≤ (x.length : Int) ∧ (x.length : Int) ≤ 6) && suf.all tok) := by
  induction suf with
  | nil =>
    intro k pre x hx hz hk
    obtain ⟨k, rfl⟩ : ∃ m, k = m + 1 := ⟨k - 1, by omega⟩
    have hl : x.length = pre.length := by simp [hx]
    simp only [spec_ProgramOk.l0]
    rw [if_neg (by omega), in_eq]
    simp
  | cons a t ih =>
    intro k pre x hx hz hk
    simp only [List.length_cons] at hk
    obtain ⟨k, rfl⟩ : ∃ m, k = m + 1 := ⟨k - 1, by omega⟩
    have hl : x.length = pre.length + (t.length + 1) := by simp [hx]
    have hr : rd_T99 x (pre.length : Int) = a := by rw [hx]; exact rd_app62 pre a t
    have hn : ((pre.length : Int) + 1) = (((pre ++ [a]).length : Nat) : Int) := by simp
    have hs := hz.2 a (by simp [hx])
    have hz1 := hz.1
    simp only [spec_ProgramOk.l0]
    rw [if_pos (by omega), if_pos (by omega), hr, sblock a.f0 (by omega) k (by omega)]
    simp only [Option.bind_some, List.all_cons]
    by_cases c : blk a.f0 = true
    · rw [if_pos c, sexpr]
      simp only [Option.bind_some]
      by_cases c2 : eok a.f1.f0 a.f1.f1 a.f1.f2 = true
      · have ht : tok a = true := by unfold tok; rw [c, c2]; rfl
        rw [if_pos c2, w64 (by omega) (by omega), hn, ih k (pre ++ [a]) x (by simp [hx]) hz (by omega), ht, Bool.true_and]
      · have ht : tok a = false := by unfold tok; rw [Bool.eq_false_iff.mpr c2, Bool.and_false]
        rw [if_neg c2, ht, Bool.false_and, Bool.and_false]
    · have ht : tok a = false := by unfold tok; rw [Bool.eq_false_iff.mpr c, Bool.false_and]
      rw [if_neg c, ht, Bool.false_and, Bool.and_false]
theorem sprog (x : List S99) (hz : Small x) (k : Nat) (hk : x.length + 2097162 ≤ k) : spec_ProgramOk.f k x = some (pok x) := by
  unfold spec_ProgramOk.f pok
  have := sprog_loop x k [] x rfl hz hk
  simp only [List.length_nil] at this
  rw [show ((0 : Nat) : Int) = 0 from rfl] at this
  exact this
def cnvT (s : S129) : S99 := ⟨s.f0.map cnv, ⟨s.f1.f0, s.f1.f1, s.f1.f2⟩⟩
theorem rdt (xs : List S129) (i : Int) (h0 : 0 ≤ i) (h1 : i < (xs.length : Int)) : (xs.map cnvT)[i.toNat]? = some (cnvT (rd_T129 xs i)) ∧ rd_T129 xs i ∈ xs := by
  have h : i.toNat < xs.length := by omega
  unfold rd_T129
  rw [List.getElem?_map, List.getD_eq_getElem?_getD, List.getElem?_eq_getElem h]
  exact ⟨rfl, List.getElem_mem h⟩
theorem toTask_loop (l : List S129) (sz : (l.length : Int) ≤ 1048576) (hb : ∀ s ∈ l, s.f0.length ≤ 1048576) (d : Nat) : ∀ (k : Nat) (x : List S99) (i : Int), 0 ≤ i → i ≤ l.length → (l.length : Int) - i = d → d + 1048577 < k → x.length = l.length → (∀ j : Nat, (j : Int) < i → x[j]? = (l.map cnvT)[j]?) →
    laws_toTaskS.l0 k l x i = some (l.map cnvT) := by
  induction d with
  | zero =>
    intro k x i h0 h1 hd hk hl hx
    obtain ⟨k, rfl⟩ : ∃ m, k = m + 1 := ⟨k - 1, by omega⟩
    simp only [laws_toTaskS.l0]
    rw [if_neg (by omega)]
    congr 1
    apply List.ext_getElem?
    intro j
    by_cases hj : (j : Int) < i
    · exact hx j hj
    · rw [List.getElem?_eq_none (by omega), List.getElem?_eq_none (by rw [List.length_map]; omega)]
  | succ d ih =>
    intro k x i h0 h1 hd hk hl hx
    obtain ⟨k, rfl⟩ : ∃ m, k = m + 1 := ⟨k - 1, by omega⟩
    obtain ⟨e1, e2⟩ := rdt l i h0 (by omega)
    have hs := hb _ e2
    simp only [laws_toTaskS.l0, laws_toTask.f, laws_toExpr.f]
    rw [if_pos (by omega), if_pos h0, toStmt_tells _ (by omega) k (by omega)]
    simp only [Option.bind_some]
    rw [if_pos (by omega), w64 (n := i + 1) (by omega) (by omega)]
    refine ih k _ (i + 1) (by omega) (by omega) (by omega) (by omega) (by simp [hl]) ?_
    intro j hj
    by_cases e : (j : Int) = i
    · have e2 : j = i.toNat := by omega
      subst e2
      rw [e1, List.getElem?_set_self (by omega)]
      rfl
    · rw [List.getElem?_set_ne (by omega)]
      exact hx j (by omega)
theorem toProg_tells (l : List S129) (h : (l.length : Int) ≤ 1048576) (hb : ∀ s ∈ l, s.f0.length ≤ 1048576) (k : Nat) (hk : l.length + 1048580 ≤ k) : laws_toProgram.f k l = some (l.map cnvT) := by
  unfold laws_toProgram.f laws_toTaskS.f
  rw [if_pos (by omega), if_pos (by omega), toTask_loop l h hb l.length k _ 0 (by omega) (by omega) (by omega) (by omega) (by simp) (fun j hj => by omega)]
  rfl
theorem small_map (l : List S129) (h : (l.length : Int) ≤ 1048576) (hb : ∀ s ∈ l, s.f0.length ≤ 1048576) : Small (l.map cnvT) := by
  refine ⟨by rw [List.length_map]; omega, fun s hs => ?_⟩
  obtain ⟨a, ha, rfl⟩ := List.mem_map.1 hs
  have := hb a ha
  unfold cnvT
  simp only [List.length_map]
  exact this
theorem eqTask_loop (l : List S99) (hz : Small l) (d : Nat) : ∀ (k : Nat) (i : Int), 0 ≤ i → i ≤ l.length → (l.length : Int) - i = d → d + 1048577 < k → laws_eqTaskS.l0 k l l i = some true := by
  have hz1 := hz.1
  induction d with
  | zero =>
    intro k i h0 h1 hd hk
    obtain ⟨k, rfl⟩ : ∃ m, k = m + 1 := ⟨k - 1, by omega⟩
    simp only [laws_eqTaskS.l0]
    rw [if_neg (by omega)]
  | succ d ih =>
    intro k i h0 h1 hd hk
    obtain ⟨k, rfl⟩ : ∃ m, k = m + 1 := ⟨k - 1, by omega⟩
    have hm : rd_T99 l i ∈ l := by
      have h : i.toNat < l.length := by omega
      unfold rd_T99
      rw [List.getD_eq_getElem?_getD, List.getElem?_eq_getElem h]
      exact List.getElem_mem h
    have hs := hz.2 _ hm
    simp only [laws_eqTaskS.l0, laws_eqTask.f, laws_eqExpr.f]
    rw [if_pos (by omega), if_pos h0, if_pos (by omega), eqStmt_self _ (by omega) k (by omega)]
    simp only [Option.bind_some, if_true]
    rw [w64 (n := i + 1) (by omega) (by omega)]
    exact ih k (i + 1) (by omega) (by omega) (by omega) (by omega)
theorem eqProg_self (l : List S99) (hz : Small l) (k : Nat) (hk : l.length + 1048580 ≤ k) : laws_eqProgram.f k l l = some true := by
  unfold laws_eqProgram.f laws_eqTaskS.f
  have hz1 := hz.1
  rw [if_pos rfl, eqTask_loop l hz l.length k 0 (by omega) (by omega) (by omega) (by omega)]
  rfl
theorem szTask_loop (suf : List S129) : ∀ (k : Nat) (pre x : List S129) (a : Int), x = pre ++ suf → (x.length : Int) ≤ 1048576 → (∀ s ∈ x, s.f0.length ≤ maxLen) → suf.length < k → 0 ≤ a → a ≤ 1048576 →
    ∃ t, laws_szTaskS.l0 k x a (pre.length : Int) = some t ∧ (t < 0 ∨ ∀ s ∈ suf, s.f0.length ≤ 1048576) := by
  have hm : (maxLen : Int) ≤ 9223372036854775807 := by decide
  induction suf with
  | nil =>
    intro k pre x a hx hz hb hk a0 a1
    obtain ⟨k, rfl⟩ : ∃ m, k = m + 1 := ⟨k - 1, by omega⟩
    have hl : x.length = pre.length := by simp [hx]
    simp only [laws_szTaskS.l0]
    rw [if_neg (by omega)]
    exact ⟨a, rfl, Or.inr (fun s hs => by simp at hs)⟩
  | cons b t ih =>
    intro k pre x a hx hz hb hk a0 a1
    simp only [List.length_cons] at hk
    obtain ⟨k, rfl⟩ : ∃ m, k = m + 1 := ⟨k - 1, by omega⟩
    have hl : x.length = pre.length + (t.length + 1) := by simp [hx]
    have hr : rd_T129 x (pre.length : Int) = b := by rw [hx]; unfold rd_T129; simp [List.getD]
    have hn : ((pre.length : Int) + 1) = (((pre ++ [b]).length : Nat) : Int) := by simp
    have hbl := hb b (by simp [hx])
    simp only [laws_szTaskS.l0, laws_szTask.f, laws_szStmtS.f]
    rw [if_pos (by omega), if_pos (by omega), hr, w64 (n := a - (b.f0.length : Int)) (by omega) (by omega)]
    by_cases c : a - (b.f0.length : Int) < 0
    · rw [if_pos c]
      exact ⟨-1, by simp, Or.inl (by omega)⟩
    · rw [if_neg c]
      simp only [Option.bind_some]
      rw [if_neg c]
      simp only [Option.bind_some]
      rw [if_neg c, w64 (n := (pre.length : Int) + 1) (by omega) (by omega), hn]
      obtain ⟨r, e, h⟩ := ih k (pre ++ [b]) x (a - (b.f0.length : Int)) (by simp [hx]) hz hb (by omega) (by omega) (by omega)
      refine ⟨r, e, h.imp_right (fun h s hs => ?_)⟩
      rcases List.mem_cons.1 hs with rfl | hs
      · omega
      · exact h s hs
theorem szProg_tells (l : List S129) (hl : l.length ≤ maxLen) (hb : ∀ s ∈ l, s.f0.length ≤ maxLen) (k : Nat) (hk : l.length + 2 ≤ k) : ∃ t, laws_szProgram.f k l 1048576 = some t ∧ (t < 0 ∨ (l.length : Int) ≤ 1048576 ∧ ∀ s ∈ l, s.f0.length ≤ 1048576) := by
  have hm : (maxLen : Int) ≤ 9223372036854775807 := by decide
  unfold laws_szProgram.f laws_szTaskS.f
  rw [w64 (by omega) (by omega)]
  by_cases c : 1048576 - (l.length : Int) < 0
  · rw [if_pos c]; exact ⟨-1, by simp, Or.inl (by omega)⟩
  · rw [if_neg c]
    obtain ⟨r, e, h⟩ := szTask_loop l k [] l (1048576 - (l.length : Int)) rfl (by omega) hb (by omega) (by omega) (by omega)
    simp only [List.length_nil] at e
    rw [show ((0 : Nat) : Int) = 0 from rfl] at e
    rw [e]
    simp only [Option.bind_some]
    by_cases c2 : r < 0
    · rw [if_pos c2]; exact ⟨-1, rfl, Or.inl (by omega)⟩
    · rw [if_neg c2]; exact ⟨r, rfl, h.imp_right (fun h => ⟨by omega, h⟩)⟩
/-- A number behind a space. -/
def spn (n : Int) : List UInt8 := 32 :: Lib.itoa n
/-- A statement's word. -/
def kw (c : Int) : List UInt8 := if c = 1 then [115, 101, 116] else if c = 2 then [115, 101, 110, 115, 101] else if c = 3 then [115, 101, 110, 100] else if c = 4 then [105, 102] else if c = 5 then [108, 111, 111, 112] else [101, 110, 100]
/-- A statement's numbers. -/
def nums (c v n o a b : Int) : List Int := if c = 1 then [v, o, a, b] else if c = 2 then [v, n] else if c = 3 ∨ c = 4 then [o, a, b] else if c = 5 then [n] else []
/-- A statement's text. -/
def canon (c v n o a b : Int) : List UInt8 := kw c ++ (nums c v n o a b).flatMap spn
theorem rd_at (pre : List Int) (n : Int) (u : List Int) : rd (pre ++ n :: u) (pre.length : Int) = n := by
  unfold Go.Proofs.YtcpmkcidehhbiaaDoorW.PrintWords.rd
  simp [List.getD]
def i64 (n : Int) : Prop := -9223372036854775808 ≤ n ∧ n ≤ 9223372036854775807
theorem spn_tx (n : Int) : (⟨#[32]⟩ : ByteArray) ++ (⟨(Lib.itoa n).toArray⟩ : ByteArray) = tx (spn n) := tx_app [32] (Lib.itoa n)
theorem spn_len {n : Int} (h : i64 n) : (spn n).length ≤ 21 := by
  have := itoa_len h.1 h.2
  unfold spn
  rw [List.length_cons]; omega
theorem spaced_loop (ns : List Int) (hl : ns.length ≤ 100) (u : List Int) : ∀ (k : Nat) (x : List UInt8) (pre : List Int), ns = pre ++ u → (∀ n ∈ u, i64 n) → x.length + 30 * u.length ≤ 100000 → u.length < k →
    impl_spaced.l0 k (tx x) ns (ns.length : Int) (pre.length : Int) = some (tx (x ++ u.flatMap spn)) := by
  induction u with
  | nil =>
    intro k x pre e _ _ hk
    obtain ⟨k, rfl⟩ : ∃ m, k = m + 1 := ⟨k - 1, by omega⟩
    simp only [impl_spaced.l0]
    rw [if_neg (by rw [e]; simp)]
    simp
  | cons n u ih =>
    intro k x pre e hn hx hk
    simp only [List.length_cons] at hk hx
    obtain ⟨k, rfl⟩ : ∃ m, k = m + 1 := ⟨k - 1, by omega⟩
    have hlen : ns.length = pre.length + (u.length + 1) := by rw [e]; simp
    have h0 := hn n (by simp)
    have hs := spn_len h0
    have hz : (⟨(Lib.itoa n).toArray⟩ : ByteArray).size = (Lib.itoa n).length := tx_size _
    have hi := itoa_len h0.1 h0.2
    have i2 := ih k (x ++ spn n) (pre ++ [n]) (by rw [e]; simp) (fun y hy => hn y (by simp [hy])) (by rw [List.length_append]; omega) (by omega)
    rw [List.length_append, List.length_singleton] at i2
    simp only [impl_spaced.l0]
    rw [if_pos (by omega), if_pos (by omega), if_pos (by omega), show rd ns (pre.length : Int) = n by rw [e]; exact rd_at pre n u, ifmt n h0.1 h0.2]
    simp only [Option.bind_some]
    rw [spn_tx, tx_size, tx_size, hz, if_pos (by omega), if_pos (by omega), tx_app, w64 (by omega) (by omega), show ((pre.length : Nat) : Int) + 1 = ((pre.length + 1 : Nat) : Int) by omega, i2]
    simp
theorem spaced_tells (x : List UInt8) (ns : List Int) (hl : ns.length ≤ 100) (hx : x.length ≤ 1000) (hn : ∀ n ∈ ns, i64 n) (k : Nat) (hk : ns.length < k) : impl_spaced.f k (tx x) ns = some (tx (x ++ ns.flatMap spn)) := by
  unfold impl_spaced.f
  exact spaced_loop ns hl ns k x [] (by simp) hn (by omega) hk
theorem hasN_eq (c : Int) : impl_hasN.f c = some (decide (c = 2 ∨ c = 5)) := by
  unfold impl_hasN.f
  by_cases h : c = 2
  · rw [if_pos h]; simp [h]
  · rw [if_neg h]; simp [h]; rfl
theorem sok_kind {c v n o a b : Int} (h : sok c v n o a b = true) : c = 1 ∨ c = 2 ∨ c = 3 ∨ c = 4 ∨ c = 5 ∨ c = 6 := by
  unfold sok at h
  by_cases h1 : c = 1; · exact Or.inl h1
  by_cases h2 : c = 2; · exact Or.inr (Or.inl h2)
  by_cases h3 : c = 3; · exact Or.inr (Or.inr (Or.inl h3))
  by_cases h4 : c = 4; · exact Or.inr (Or.inr (Or.inr (Or.inl h4)))
  by_cases h5 : c = 5; · exact Or.inr (Or.inr (Or.inr (Or.inr (Or.inl h5))))
  by_cases h6 : c = 6; · exact Or.inr (Or.inr (Or.inr (Or.inr (Or.inr h6))))
  rw [if_neg h1, if_neg h2, if_neg h3, if_neg h4, if_neg h5, if_neg h6] at h
  cases h
/-- The numbers of a valid statement are small. -/
theorem nums_small {c v n o a b : Int} (h : sok c v n o a b = true) : ∀ x ∈ nums c v n o a b, -8 ≤ x ∧ x ≤ 999 := by
  intro x hx
  rcases sok_kind h with rfl | rfl | rfl | rfl | rfl | rfl
  · simp only [sok, if_true, Bool.and_eq_true, decide_eq_true_eq] at h
    have he := eok_in h.2.2
    simp only [nums, if_true, List.mem_cons, List.not_mem_nil, or_false] at hx
    omega
  · simp [sok] at h
    simp [nums] at hx
    omega
  · simp [sok] at h
    have he := eok_in h.2.2
    simp [nums] at hx
    omega
  · simp [sok] at h
    have he := eok_in h.2.2
    simp [nums] at hx
    omega
  · simp [sok] at h
    simp [nums] at hx
    omega
  · simp [nums] at hx
theorem nums_len (c v n o a b : Int) : (nums c v n o a b).length ≤ 4 := by
  unfold nums
  repeat' split
  all_goals simp
theorem kw_len (c : Int) : (kw c).length ≤ 5 := by
  unfold kw
  repeat' split
  all_goals simp
theorem iformat (c v n o a b : Int) (k : Nat) (hk : 20 ≤ k) : impl_FormatStmt.f k c v n o a b = some (tx (if sok c v n o a b = true then canon c v n o a b else [])) := by
  unfold impl_FormatStmt.f
  rw [istmt c v n o a b k (by omega)]
  simp only [Option.bind_some]
  by_cases h : sok c v n o a b = true
  · rw [if_pos h, if_pos h]
    have hs := nums_small h
    have hi : ∀ x ∈ nums c v n o a b, i64 x := fun x hx => by have := hs x hx; unfold i64; omega
    have hsp := spaced_tells (kw c) (nums c v n o a b) (by have := nums_len c v n o a b; omega) (by have := kw_len c; omega) hi
    obtain ⟨k, rfl⟩ : ∃ m, k = m + 2 := ⟨k - 2, by omega⟩
    have h2 := hsp k (by have := nums_len c v n o a b; omega)
    unfold canon
    rcases sok_kind h with rfl | rfl | rfl | rfl | rfl | rfl <;>
      simp [hasVar_eq, hasN_eq, hasExpr_eq, impl_FormatStmt.j0, impl_FormatStmt.j1, impl_stmtNames.f, Go.Proofs.YtcpmkcidehhbiaaDoorW.PrintWords.rdOf, nums, kw] at h2 ⊢ <;> exact h2
  · rw [if_neg h, if_neg h]; rfl
theorem sfmt_tx {n : Int} (h : i64 n) (k : Nat) (hk : 20 ≤ k) : spec_FormatInt.f k n = some (tx (Lib.itoa n)) := sfmt n h.1 h.2 k hk
theorem l04_tells {o a b : Int} (ho : i64 o) (ha : i64 a) (hb : i64 b) (k : Nat) (hk : 20 ≤ k) : spec_l04Expr.f k o a b = some (tx ([o, a, b].flatMap spn)) := by
  have h1 := itoa_len ho.1 ho.2
  have h2 := itoa_len ha.1 ha.2
  have h3 := itoa_len hb.1 hb.2
  have e : (⟨#[32]⟩ : ByteArray) = tx [32] := rfl
  unfold spec_l04Expr.f
  rw [sfmt_tx ho k hk, sfmt_tx ha k hk, sfmt_tx hb k hk]
  simp only [Option.bind_some, e, tx_app, tx_size, List.length_append, List.length_singleton]
  rw [if_pos (by omega), if_pos (by omega), if_pos (by omega), if_pos (by omega), if_pos (by omega)]
  congr 2
  simp [spn]
theorem sformat (c v n o a b : Int) (k : Nat) (hk : 20 ≤ k) : spec_FormatStmt.f k c v n o a b = some (tx (if sok c v n o a b = true then canon c v n o a b else [])) := by
  unfold spec_FormatStmt.f
  rw [sstmt c v n o a b k (by omega)]
  simp only [Option.bind_some]
  by_cases h : sok c v n o a b = true
  · rw [if_pos h, if_pos h]
    have hs := nums_small h
    have hi : ∀ x ∈ nums c v n o a b, i64 x := fun x hx => by have := hs x hx; unfold i64; omega
    unfold canon
    rcases sok_kind h with rfl | rfl | rfl | rfl | rfl | rfl
    · simp only [nums, if_true, List.mem_cons, List.not_mem_nil, or_false, forall_eq_or_imp, forall_eq] at hi
      have h1 := itoa_len hi.1.1 hi.1.2
      have h2 := spn_len hi.2.1
      have h3 := spn_len hi.2.2.1
      have h4 := spn_len hi.2.2.2
      rw [if_pos rfl, sfmt_tx hi.1 k hk, l04_tells hi.2.1 hi.2.2.1 hi.2.2.2 k hk]
      have e : (⟨#[115, 101, 116, 32]⟩ : ByteArray) = tx [115, 101, 116, 32] := rfl
      simp only [Option.bind_some, e, tx_app, tx_size, List.length_append, List.length_cons, List.length_nil, List.flatMap_cons, List.flatMap_nil]
      rw [if_pos (by omega), if_pos (by omega)]
      simp [nums, kw, spn]
    · simp [nums] at hi
      have h1 := itoa_len hi.1.1 hi.1.2
      have h2 := itoa_len hi.2.1 hi.2.2
      rw [if_neg (by omega), if_pos rfl, sfmt_tx hi.1 k hk, sfmt_tx hi.2 k hk]
      have e : (⟨#[115, 101, 110, 115, 101, 32]⟩ : ByteArray) = tx [115, 101, 110, 115, 101, 32] := rfl
      have e2 : (⟨#[32]⟩ : ByteArray) = tx [32] := rfl
      simp only [Option.bind_some, e, e2, tx_app, tx_size, List.length_append, List.length_cons, List.length_nil]
      rw [if_pos (by omega), if_pos (by omega), if_pos (by omega)]
      simp [nums, kw, spn]
    · simp [nums] at hi
      have h2 := spn_len hi.1
      have h3 := spn_len hi.2.1
      have h4 := spn_len hi.2.2
      rw [if_neg (by omega), if_neg (by omega), if_pos rfl, l04_tells hi.1 hi.2.1 hi.2.2 k hk]
      have e : (⟨#[115, 101, 110, 100]⟩ : ByteArray) = tx [115, 101, 110, 100] := rfl
      simp only [Option.bind_some, e, tx_app, tx_size, List.length_append, List.length_cons, List.length_nil, List.flatMap_cons, List.flatMap_nil]
      rw [if_pos (by omega)]
      simp [nums, kw, spn]
    · simp [nums] at hi
      have h2 := spn_len hi.1
      have h3 := spn_len hi.2.1
      have h4 := spn_len hi.2.2
      rw [if_neg (by omega), if_neg (by omega), if_neg (by omega), if_pos rfl, l04_tells hi.1 hi.2.1 hi.2.2 k hk]
      have e : (⟨#[105, 102]⟩ : ByteArray) = tx [105, 102] := rfl
      simp only [Option.bind_some, e, tx_app, tx_size, List.length_append, List.length_cons, List.length_nil, List.flatMap_cons, List.flatMap_nil]
      rw [if_pos (by omega)]
      simp [nums, kw, spn]
    · simp [nums] at hi
      have h1 := itoa_len hi.1 hi.2
      rw [if_neg (by omega), if_neg (by omega), if_neg (by omega), if_neg (by omega), if_pos rfl, sfmt_tx hi k hk]
      have e : (⟨#[108, 111, 111, 112, 32]⟩ : ByteArray) = tx [108, 111, 111, 112, 32] := rfl
      simp only [Option.bind_some, e, tx_app, tx_size, List.length_append, List.length_cons, List.length_nil]
      rw [if_pos (by omega)]
      simp [nums, kw, spn]
    · rw [if_neg (by omega), if_neg (by omega), if_neg (by omega), if_neg (by omega), if_neg (by omega)]
      rfl
  · rw [if_neg h, if_neg h]; rfl
def stx (s : S27) : List UInt8 := if sok s.f0 s.f1 s.f2 s.f3.f0 s.f3.f1 s.f3.f2 = true then canon s.f0 s.f1 s.f2 s.f3.f0 s.f3.f1 s.f3.f2 else []
def tln (s : S99) : List UInt8 := [116, 97, 115, 107] ++ [s.f1.f0, s.f1.f1, s.f1.f2].flatMap spn
def bodyT (l : List S27) : List UInt8 := l.flatMap fun s => stx s ++ [10]
def ptxt (l : List S99) : List UInt8 := l.flatMap fun s => (tln s ++ [10]) ++ bodyT s.f0
theorem flat_len (l : List Int) (h : ∀ x ∈ l, i64 x) : (l.flatMap spn).length ≤ 21 * l.length := by
  induction l with
  | nil => simp
  | cons a l ih =>
    have h1 := spn_len (h a (by simp))
    have h2 := ih (fun x hx => h x (by simp [hx]))
    rw [List.flatMap_cons, List.length_append, List.length_cons]
    omega
theorem canon_len {c v n o a b : Int} (h : sok c v n o a b = true) : (canon c v n o a b).length ≤ 89 := by
  have hs := nums_small h
  have h1 := flat_len (nums c v n o a b) (fun x hx => by have := hs x hx; unfold i64; omega)
  have h2 := nums_len c v n o a b
  have h3 := kw_len c
  unfold canon
  rw [List.length_append]
  omega
theorem stx_len (s : S27) : (stx s).length ≤ 89 := by
  unfold stx
  split
  · rename_i h; exact canon_len h
  · simp
theorem tln_len (s : S99) (h : eok s.f1.f0 s.f1.f1 s.f1.f2 = true) : (tln s).length ≤ 67 := by
  have he := eok_in h
  have h1 := flat_len [s.f1.f0, s.f1.f1, s.f1.f2] (fun x hx => by simp at hx; unfold i64; omega)
  unfold tln
  rw [List.length_append]
  simp only [List.length_cons, List.length_nil] at h1 ⊢
  omega
theorem pok_all {l : List S99} (h : pok l = true) : l.length ≤ 6 ∧ 1 ≤ l.length ∧ ∀ s ∈ l, s.f0.length ≤ 24 ∧ eok s.f1.f0 s.f1.f1 s.f1.f2 = true ∧ blk s.f0 = true := by
  unfold pok at h
  simp only [Bool.and_eq_true, decide_eq_true_eq] at h
  refine ⟨by omega, by omega, fun s hs => ?_⟩
  have ht := List.all_eq_true.1 h.2 s hs
  unfold tok at ht
  simp only [Bool.and_eq_true] at ht
  have hb := ht.1
  unfold blk fin at hb
  simp only [Bool.and_eq_true, decide_eq_true_eq] at hb
  exact ⟨hb.2, ht.2, ht.1⟩
theorem tx_nil : (⟨#[]⟩ : ByteArray) = tx [] := rfl
theorem taskLine_tells (s : S99) (h : eok s.f1.f0 s.f1.f1 s.f1.f2 = true) (k : Nat) (hk : 10 ≤ k) : impl_taskLine.f k s.f1.f0 s.f1.f1 s.f1.f2 = some (tx (tln s)) := by
  have he := eok_in h
  unfold impl_taskLine.f
  have hsp := spaced_tells [116, 97, 115, 107] [s.f1.f0, s.f1.f1, s.f1.f2] (by simp) (by simp) (fun x hx => by simp at hx; unfold i64; omega) k (by simp; omega)
  have e : (⟨#[116, 97, 115, 107]⟩ : ByteArray) = tx [116, 97, 115, 107] := rfl
  rw [e, hsp]
  rfl
theorem body_len (l : List S27) : (bodyT l).length ≤ 90 * l.length := by
  induction l with
  | nil => simp [bodyT]
  | cons a l ih =>
    have := stx_len a
    unfold bodyT at ih ⊢
    rw [List.flatMap_cons, List.length_append, List.length_append]
    simp only [List.length_cons, List.length_nil]
    omega
theorem inner_tells (k : Nat) (hk : 20 ≤ k) (l : List S27) : ∀ acc : List UInt8, acc.length + 100 * l.length ≤ 1000000000000 → impl_ProgramText.inner k l acc = some (acc ++ bodyT l) := by
  induction l with
  | nil => intro acc _; simp [impl_ProgramText.inner, bodyT]
  | cons s l ih =>
    intro acc ha
    simp only [List.length_cons] at ha
    have hs := stx_len s
    simp only [impl_ProgramText.inner]
    rw [iformat _ _ _ _ _ _ k hk]
    simp only [Option.bind_some]
    have e : (if sok s.f0 s.f1 s.f2 s.f3.f0 s.f3.f1 s.f3.f2 = true then canon s.f0 s.f1 s.f2 s.f3.f0 s.f3.f1 s.f3.f2 else []) = stx s := rfl
    rw [e, tx_size, if_pos (by omega), tx_list, ih _ (by simp only [List.length_append, List.length_singleton]; omega)]
    simp [bodyT]
theorem outer_tells (k : Nat) (hk : 20 ≤ k) (l : List S99) : ∀ acc : List UInt8, (∀ s ∈ l, s.f0.length ≤ 24 ∧ eok s.f1.f0 s.f1.f1 s.f1.f2 = true) → acc.length + 10000 * l.length ≤ 1000000 → impl_ProgramText.outer k l acc = some (acc ++ ptxt l) := by
  induction l with
  | nil => intro acc _ _; simp [impl_ProgramText.outer, ptxt]
  | cons s l ih =>
    intro acc hs ha
    simp only [List.length_cons] at ha
    have h0 := hs s (by simp)
    have ht := tln_len s h0.2
    have hb0 := body_len s.f0
    simp only [impl_ProgramText.outer]
    rw [taskLine_tells s h0.2 k (by omega)]
    simp only [Option.bind_some]
    rw [tx_size, if_pos (by omega), tx_list, inner_tells k hk s.f0 _ (by simp only [List.length_append, List.length_singleton]; omega)]
    simp only [Option.bind_some]
    rw [ih _ (fun x hx => hs x (by simp [hx])) (by simp only [List.length_append, List.length_singleton]; omega)]
    simp [ptxt]
theorem iptext (x : List S99) (hz : Small x) (k : Nat) (hk : x.length + 4000000 ≤ k) : impl_ProgramText.f k x = some (tx (if pok x = true then ptxt x else [])) := by
  unfold impl_ProgramText.f
  rw [iprog x hz k (by omega)]
  simp only [Option.bind_some]
  by_cases c : pok x = true
  · have hp := pok_all c
    rw [if_pos c, if_pos c, outer_tells k (by omega) x [] (fun s hs => ⟨(hp.2.2 s hs).1, (hp.2.2 s hs).2.1⟩) (by simp; omega)]
    rfl
  · rw [if_neg c, if_neg c]; rfl
def encT (l : List UInt8) : List Int := l.map fun b => (b.toNat : Int)
theorem encT_len (l : List UInt8) : (encT l).length = l.length := by simp [encT]
theorem encT_app (a b : List UInt8) : encT a ++ encT b = encT (a ++ b) := by simp [encT]
theorem bytes_tx (l : List UInt8) : bytesOf (tx l) = encT l := rfl
theorem str_enc (l : List UInt8) : strOfNums (encT l) = tx l := by
  have h : (encT l).map (fun n => UInt8.ofNat n.toNat) = l := by
    unfold encT
    rw [List.map_map]
    conv => rhs; rw [← List.map_id l]
    apply List.map_congr_left
    intro b _
    simp
  unfold strOfNums
  rw [h]
  rfl
theorem pt_l1 (x : List S99) (pre : List S99) (a : S99) (suf : List S99) (hx : x = pre ++ a :: suf) (hl : x.length ≤ 6) (hb : a.f0.length ≤ 24) (K : Nat) (hK : 40 ≤ K) (r : ByteArray) (d : List S27) : ∀ (jp : List S27) (acc : List UInt8), a.f0 = jp ++ d → acc.length + 100 * d.length ≤ 10000000 →
    spec_ProgramText.l0 K (encT (acc ++ bodyT d)) ((pre.length : Int) + 1) x = some r →
    spec_ProgramText.l1 (K + d.length + 1) (encT acc) (pre.length : Int) (jp.length : Int) x = some r := by
  have hlen : x.length = pre.length + (suf.length + 1) := by rw [hx]; simp
  have hr : rd_T99 x (pre.length : Int) = a := by rw [hx]; exact rd_app62 pre a suf
  induction d with
  | nil =>
    intro jp acc e ha h
    rw [List.append_nil] at e
    have hj : a.f0.length = jp.length := by rw [e]
    rw [show K + ([] : List S27).length + 1 = K + 1 from rfl]
    simp only [spec_ProgramText.l1]
    rw [if_pos (by omega), if_pos (by omega), hr, if_neg (by omega), w64 (by omega) (by omega)]
    simpa [bodyT] using h
  | cons s d ih =>
    intro jp acc e ha h
    simp only [List.length_cons] at ha
    have hj : a.f0.length = jp.length + (d.length + 1) := by rw [e]; simp
    have hrs : rd_T27 a.f0 (jp.length : Int) = s := by rw [e]; exact rd_app jp s d
    have hs := stx_len s
    have e2 : (if sok s.f0 s.f1 s.f2 s.f3.f0 s.f3.f1 s.f3.f2 = true then canon s.f0 s.f1 s.f2 s.f3.f0 s.f3.f1 s.f3.f2 else []) = stx s := rfl
    have e10 : (⟨#[10]⟩ : ByteArray) = tx [10] := rfl
    have h2 := ih (jp ++ [s]) (acc ++ (stx s ++ [10])) (by rw [e]; simp) (by simp only [List.length_append, List.length_singleton]; omega) (by simpa [bodyT] using h)
    rw [List.length_append, List.length_singleton] at h2
    obtain ⟨m, hm⟩ : ∃ m, K + d.length + 1 = m := ⟨_, rfl⟩
    rw [show K + (s :: d).length + 1 = (K + d.length + 1) + 1 by simp only [List.length_cons]; omega, hm]
    rw [hm] at h2
    simp only [spec_ProgramText.l1]
    rw [if_pos (by omega), if_pos (by omega), hr, if_pos (by omega), if_pos (by omega), hrs, sformat _ _ _ _ _ _ m (by omega)]
    simp only [Option.bind_some]
    rw [e2, e10, tx_app, tx_size, tx_size, bytes_tx, encT_len, encT_app, if_pos (by omega), if_pos (by simp only [List.length_append, List.length_singleton]; omega), w64 (by omega) (by omega), show ((jp.length : Nat) : Int) + 1 = ((jp.length + 1 : Nat) : Int) by omega]
    exact h2
theorem pt_l0 (x : List S99) (hz : Small x) (hp : pok x = true) (suf : List S99) : ∀ (pre : List S99) (acc : List UInt8), x = pre ++ suf → acc.length + 10000 * suf.length ≤ 1000000 →
    spec_ProgramText.l0 (4000000 + 40 * suf.length) (encT acc) (pre.length : Int) x = some (tx (acc ++ ptxt suf)) := by
  have hall := pok_all hp
  induction suf with
  | nil =>
    intro pre acc e ha
    rw [List.append_nil] at e
    rw [show 4000000 + 40 * ([] : List S99).length = (3999998 + 1) + 1 from rfl]
    simp only [spec_ProgramText.l0]
    rw [if_neg (by rw [e]; omega)]
    simp only [spec_ProgramText.j1]
    try rw [if_neg Bool.false_ne_true]
    rw [str_enc]
    simp [ptxt]
  | cons a suf ih =>
    intro pre acc e ha
    simp only [List.length_cons] at ha
    have hlen : x.length = pre.length + (suf.length + 1) := by rw [e]; simp
    have h0 := hall.2.2 a (by rw [e]; simp)
    have hr : rd_T99 x (pre.length : Int) = a := by rw [e]; exact rd_app62 pre a suf
    have ht := tln_len a h0.2.1
    have he := eok_in h0.2.1
    have hb0 := body_len a.f0
    have i2 := ih (pre ++ [a]) ((acc ++ (tln a ++ [10])) ++ bodyT a.f0) (by rw [e]; simp) (by simp only [List.length_append, List.length_singleton]; omega)
    rw [List.length_append, List.length_singleton, show ((pre.length + 1 : Nat) : Int) = (pre.length : Int) + 1 by omega] at i2
    obtain ⟨K, hK⟩ : ∃ K, 4000000 + 40 * suf.length = K := ⟨_, rfl⟩
    rw [hK] at i2
    have h1 := pt_l1 x pre a suf e hall.1 h0.1 K (by omega) _ a.f0 [] (acc ++ (tln a ++ [10])) (by simp) (by simp only [List.length_append, List.length_singleton]; omega) i2
    obtain ⟨m, hm⟩ : ∃ m, K + 38 = m := ⟨_, rfl⟩
    have h2 := at_rounds (fun k => (spec_ProgramText.mono_l k).2.2 _ _ _ _) (show K + a.f0.length + 1 ≤ m by omega) h1
    rw [show 4000000 + 40 * (a :: suf).length = (m + 1) + 1 by simp only [List.length_cons]; omega]
    simp only [spec_ProgramText.l0]
    have h7 : 4000000 ≤ m := by rw [← hm, ← hK]; exact Nat.le_trans (Nat.le_add_right _ _) (Nat.le_add_right _ _)
    have hk0 : x.length + 2097162 ≤ m + 1 := Nat.le_trans (Nat.add_le_add_right hall.1 _) (Nat.le_trans (Nat.le_of_ble_eq_true rfl : 6 + 2097162 ≤ 4000000) (Nat.le_succ_of_le h7))
    have hok := sprog x hz (m + 1) hk0
    rw [if_pos (by omega), hok, hp]
    simp only [Option.bind_some, spec_ProgramText.j1]
    have e4 : (⟨#[116, 97, 115, 107]⟩ : ByteArray) = tx [116, 97, 115, 107] := rfl
    have e10 : (⟨#[10]⟩ : ByteArray) = tx [10] := rfl
    have hi : ∀ n : Int, -8 ≤ n → n ≤ 999 → i64 n := fun n h1 h2 => by unfold i64; omega
    have hf := flat_len [a.f1.f0, a.f1.f1, a.f1.f2] (fun x hx => by simp at hx; unfold i64; omega)
    simp only [List.length_cons, List.length_nil] at hf
    rw [if_pos trivial, if_pos (by omega), if_pos (by omega), hr, l04_tells (hi _ (by omega) (by omega)) (hi _ (by omega) (by omega)) (hi _ (by omega) (by omega)) _ (by omega)]
    simp only [Option.bind_some]
    rw [tx_size, if_pos (by omega), e4, tx_app, tx_size, if_pos (by simp only [List.length_append, List.length_cons, List.length_nil]; omega), e10, tx_app, tx_size, bytes_tx, encT_len, encT_app, if_pos (by simp only [List.length_append, List.length_cons, List.length_nil]; omega)]
    have e5 : [116, 97, 115, 107] ++ [a.f1.f0, a.f1.f1, a.f1.f2].flatMap spn = tln a := rfl
    have e6 : ((([] : List S27).length : Nat) : Int) = 0 := rfl
    rw [e6] at h2
    rw [e5, h2]
    simp [ptxt]
theorem sptext (x : List S99) (hz : Small x) (k : Nat) (hk : x.length + 5000000 ≤ k) : spec_ProgramText.f k x = some (tx (if pok x = true then ptxt x else [])) := by
  unfold spec_ProgramText.f
  by_cases c : pok x = true
  · have hall := pok_all c
    rw [if_pos c]
    have h := pt_l0 x hz c x [] [] (by simp) (by simp; omega)
    have e1 : encT [] = [] := rfl
    have e2 : ((([] : List S99).length : Nat) : Int) = 0 := rfl
    rw [e1, e2, List.nil_append] at h
    exact at_rounds (fun k => (spec_ProgramText.mono_l k).1 _ _ _) (show 4000000 + 40 * x.length ≤ k by omega) h
  · rw [if_neg c]
    obtain ⟨k, rfl⟩ : ∃ m, k = m + 2 := ⟨k - 2, by omega⟩
    rw [show k + 2 = (k + 1) + 1 from rfl]
    simp only [spec_ProgramText.l0]
    have hf : pok x = false := by simpa using c
    rw [sprog x hz _ (by omega), hf]
    simp only [Option.bind_some]
    have hj : spec_ProgramText.j1 (k + 1) [] 0 false x = some (tx []) := by
      simp only [spec_ProgramText.j1]
      try rw [if_neg Bool.false_ne_true]
      rfl
    rw [hj]
    simp
theorem FnExactProgramText : laws_FnExactProgramText.Pure := by
  intro l hl hw
  obtain ⟨K, hK⟩ : ∃ K, l.length + 6000000 < K := ⟨_, Nat.lt_succ_self _⟩
  obtain ⟨t, et, ht⟩ := szProg_tells l hl (fun s hs => (hw s hs).1.1) K (by omega)
  refine ⟨K, ?_⟩
  unfold laws_FnExactProgramText.f
  rw [et]
  simp only [Option.bind_some]
  by_cases c : t < 0
  · rw [if_pos c]
  · rw [if_neg c]
    obtain ⟨sz, hb⟩ : (l.length : Int) ≤ 1048576 ∧ ∀ s ∈ l, s.f0.length ≤ 1048576 := ht.resolve_left c
    have hs := small_map l sz hb
    have hlen : (l.map cnvT).length = l.length := List.length_map ..
    rw [toProg_tells l sz hb K (by omega)]
    simp only [Option.bind_some]
    rw [sptext _ hs K (by omega), iptext _ hs K (by omega), eqProg_self _ hs K (by omega)]
    simp

end Go.Proofs.YtcpmkcidehhbiaaDoor.Pure
