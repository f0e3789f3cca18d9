/- The program's ParseProgram and the reference's give the same program and the same number for every text; the program's tasks share no memory with one another, nor with a second call's; the row's tables of the library hold what the card ties. -/
import Derived.Test.YtcpmkcidehhbiaaGreatDoorPFnExactParseProgramx19
import Derived.Laws.Concat
import Derived.Laws.Strings
import Derived.Lib.ItoaMem
import Derived.Lib.SplitLaws
import Derived.Lib.IndexBytes
import Derived.Lib.AtoiAllCases
import Derived.Lib.FieldsLaws
import Derived.Lib.Join
import Derived.Lib.SlicesS
namespace Go.Proofs.YtcpmkcidehhbiaaGreatDoor.Pure
open Go.RowKit Go.Proofs.YtcpmkcidehhbiaaGreatDoor.PFnExactParseProgram Go.Proofs.YtcpmkcidehhbiaaGreatDoorW.PrintWords Go.Proofs.YtcpmkcidehhbiaaGreatDoorW.PrintLast
set_option linter.unusedVariables false
set_option linter.unusedSimpArgs false

theorem w64 {n : Int} (h1 : -9223372036854775808 ≤ n) (h2 : n ≤ 9223372036854775807) : wrap64 n = n := by unfold wrap64; omega
theorem w64_in (n : Int) : -9223372036854775808 ≤ wrap64 n ∧ wrap64 n ≤ 9223372036854775807 := by unfold wrap64; omega
theorem wf64 {n : Int} (h : (Lit.int .i64 n).wf = true) : -9223372036854775808 ≤ n ∧ n ≤ 9223372036854775807 := by
 simp only [Lit.wf, IntKind.min, IntKind.max, IntKind.signed, IntKind.bits, Bool.and_eq_true, decide_eq_true_eq, if_true] at h
 omega
theorem wfu8 {n : Int} (h : (Lit.int .u8 n).wf = true) : 0 ≤ n ∧ n ≤ 255 := by
 simp [Lit.wf, IntKind.min, IntKind.max, IntKind.signed, IntKind.bits] at h
 omega
theorem and_in (x : Int) (m : Nat) (hm : m < 9223372036854775808) : 0 ≤ Go.bits .and .i64 x (m : Int) ∧ Go.bits .and .i64 x (m : Int) ≤ m := by
 have h1 : (BitVec.ofInt 64 x &&& BitVec.ofInt 64 (m : Int)).toNat ≤ m := by
  rw [BitVec.toNat_and]
  refine Nat.le_trans Nat.and_le_right ?_
  rw [BitVec.ofInt_natCast, BitVec.toNat_ofNat]
  exact Nat.mod_le _ _
 have h2 : Go.bits .and .i64 x (m : Int) = IntKind.i64.wrap (((BitVec.ofInt 64 x &&& BitVec.ofInt 64 (m : Int)).toNat : Nat) : Int) := rfl
 rw [h2, Go.IntKind.wrap_i64]
 omega
theorem and255 (x : Int) : 0 ≤ Go.bits .and .i64 x 255 ∧ Go.bits .and .i64 x 255 ≤ 255 := and_in x 255 (by decide)
theorem tmod_in (x n : Int) (h0 : 0 ≤ x) (h : 1 ≤ n) : 0 ≤ Int.tmod x n ∧ Int.tmod x n < n := ⟨Int.tmod_nonneg _ h0, Int.tmod_lt_of_pos _ (by omega)⟩
/-- A text out of its bytes. -/
def tx (l : List UInt8) : ByteArray := ⟨l.toArray⟩
theorem tx_size (l : List UInt8) : (tx l).size = l.length := by simp [tx, ByteArray.size]
theorem tx_list (l : List UInt8) : (tx l).data.toList = l := rfl
theorem tx_app (a b : List UInt8) : tx a ++ tx b = tx (a ++ b) := by unfold tx; exact ByteArray.mk_append_mk _ _
theorem tx_back (s : ByteArray) : tx s.data.toList = s := by cases s; simp [tx]
theorem size_tl (s : ByteArray) : s.size = s.data.toList.length := (Array.length_toList).symm
theorem tl_eq (a b : ByteArray) : a.toList = b.toList ↔ a.data.toList = b.data.toList := by rw [ByteArray.toList_eq, ByteArray.toList_eq]
theorem tx_inj (a b : List UInt8) : tx a = tx b ↔ a = b := by
 constructor
 ·intro h
  have := congrArg (fun s : ByteArray => s.data.toList) h
  simpa [tx] using this
 ·rintro rfl; rfl
theorem bt_tx (s : ByteArray) (pre : List UInt8) (c : UInt8) (u : List UInt8) (h : s.data.toList = pre ++ c :: u) : bt s (pre.length : Int) = (c.toNat : Int) := by
 have hl : s.data.toList.length = pre.length + (u.length + 1) := by rw [h]; simp
 have hz : pre.length < s.size := by have := size_tl s; omega
 unfold bt
 rw [dif_pos (by simpa using hz)]
 have e : s[((pre.length : Nat) : Int).toNat]'(by simpa using hz) = s.data.toList[pre.length]'(by omega) := by simp [ByteArray.getElem_eq_getElem_data]
 rw [e]
 have e2 : s.data.toList[pre.length]'(by omega) = c := by simp only [h]; simp
 rw [e2]
theorem nd_le : ∀ (k u : Nat), u < 10 ^ (k + 1) → Lib.nDigits u ≤ k + 1 := by
 intro k
 induction k with
 | zero => intro u hu; rw [Lib.nDigits_small (by simpa using hu)]; omega
 | succ k ih =>
  intro u hu
  by_cases c : u < 10
  ·rw [Lib.nDigits_small c]; omega
  ·rw [Lib.nDigits_big c]
   have := ih (u / 10) (by rw [Nat.pow_succ] at hu; omega)
   omega
theorem itoa_len {n : Int} (h0 : -9223372036854775808 ≤ n) (h1 : n ≤ 9223372036854775807) : (Lib.itoa n).length ≤ 20 := by
 have hp : (9223372036854775808 : Nat) < 10 ^ 19 := by decide
 unfold Lib.itoa
 split
 ·rw [List.length_cons, Lib.decDigits_length]
  have := nd_le 18 n.natAbs (by show n.natAbs < 10 ^ 19; omega)
  omega
 ·rw [Lib.decDigits_length]
  have := nd_le 18 n.toNat (by show n.toNat < 10 ^ 19; omega)
  omega
/-- The digits of u, none of nought. -/
def dgs (u : Nat) : List UInt8 := if u = 0 then [] else Lib.decDigits u
theorem dgs_step (u : Nat) (h : 1 ≤ u) : dgs u = dgs (u / 10) ++ [UInt8.ofNat (48 + u % 10)] := by
 unfold dgs
 rw [if_neg (by omega)]
 by_cases c : u < 10
 ·rw [Lib.decDigits_one c, if_pos (by omega)]
  rw [show u % 10 = u by omega]; rfl
 ·rw [if_neg (by omega)]
  conv => lhs; rw [Lib.decDigits, dif_neg c]
theorem fig1 (v : Nat) (h : v < 10) : spec_l01Figure.f (v : Int) = some (((48 + v : Nat) : Int)) := by
 unfold spec_l01Figure.f
 rw [if_pos (by omega), w64 (by omega) (by omega)]
 congr 1; omega
theorem fmt_loop (b : Bool) (k : Nat) : ∀ (x : Int) (u : Nat) (l : List UInt8), x = u ∨ x = -(u : Int) → u < 10 ^ k → u ≤ 9223372036854775808 → l.length + k ≤ 40 → x ≤ 9223372036854775807 →
  spec_FormatInt.l0 (k + 1) x b ⟨l.toArray⟩ = some (if b = true then ⟨(45 :: (dgs u ++ l)).toArray⟩ else ⟨(dgs u ++ l).toArray⟩) := by
 induction k with
 | zero =>
  intro x u l hx hu _ hl _
  have h0 : u = 0 := by simpa using hu
  have hx0 : x = 0 := by omega
  simp only [spec_FormatInt.l0]
  rw [if_pos hx0, h0]
  have hz : (ByteArray.mk l.toArray).size = l.length := by simp [ByteArray.size]
  have e : (⟨#[45]⟩ : ByteArray) ++ ⟨l.toArray⟩ = ⟨(45 :: l).toArray⟩ := ByteArray.mk_append_mk [45] l
  have hc : 1 + (ByteArray.mk l.toArray).size ≤ 9223372036854775807 := by rw [hz]; omega
  rw [e, if_pos hc]
  have : dgs 0 ++ l = l := rfl
  rw [this]
  cases b <;> rfl
 | succ k ih =>
  intro x u l hx hu hu2 hl hx2
  obtain ⟨m, hm⟩ : ∃ m, m = k + 1 := ⟨_, rfl⟩
  rw [← hm] at ih ⊢
  have hz : (ByteArray.mk l.toArray).size = l.length := by simp [ByteArray.size]
  by_cases h0 : u = 0
  ·have hx0 : x = 0 := by omega
   simp only [spec_FormatInt.l0]
   rw [if_pos hx0, h0]
   have e : (⟨#[45]⟩ : ByteArray) ++ ⟨l.toArray⟩ = ⟨(45 :: l).toArray⟩ := ByteArray.mk_append_mk [45] l
   have hc : 1 + (ByteArray.mk l.toArray).size ≤ 9223372036854775807 := by rw [hz]; omega
   rw [e, if_pos hc]
   have : dgs 0 ++ l = l := rfl
   rw [this]
   cases b <;> rfl
  ·have hs := dgs_step u (by omega)
   have hv : u % 10 < 10 := Nat.mod_lt _ (by omega)
   have hd : u / 10 < 10 ^ k := by rw [Nat.div_lt_iff_lt_mul (by omega)]; rw [Nat.pow_succ] at hu; exact hu
   have hS : strOfNums [((48 + u % 10 : Nat) : Int)] = ⟨[UInt8.ofNat (48 + u % 10)].toArray⟩ := by unfold strOfNums; rw [List.map_cons, List.map_nil, Int.toNat_natCast]
   have e : strOfNums [((48 + u % 10 : Nat) : Int)] ++ (⟨l.toArray⟩ : ByteArray) = ⟨(UInt8.ofNat (48 + u % 10) :: l).toArray⟩ := by rw [hS]; exact ByteArray.mk_append_mk _ l
   have hsz : (strOfNums [((48 + u % 10 : Nat) : Int)]).size = 1 := by rw [strOfNums_size]; rfl
   have ht : dgs (u / 10) ++ (UInt8.ofNat (48 + u % 10) :: l) = dgs u ++ l := by rw [hs]; simp
   simp only [spec_FormatInt.l0]
   rw [if_neg (by omega)]
   rcases hx with hx | hx
   ·have h1 : Int.tmod x 10 = ((u % 10 : Nat) : Int) := by rw [hx, Int.tmod_eq_emod_of_nonneg (by omega)]; rfl
    have h2 : Int.tdiv x 10 = ((u / 10 : Nat) : Int) := by rw [hx, Int.tdiv_eq_ediv_of_nonneg (by omega)]; rfl
    rw [h1, h2, if_neg (by omega), fig1 _ hv]
    simp only [Option.bind_some]
    rw [hsz, hz, if_pos (by omega), w64 (by omega) (by omega), e, ih _ (u / 10) _ (Or.inl rfl) hd (by omega) (by simp only [List.length_cons]; omega) (by omega), ht]
   ·have h1 : Int.tmod x 10 = -((u % 10 : Nat) : Int) := by rw [hx, Int.neg_tmod, Int.tmod_eq_emod_of_nonneg (by omega)]; rfl
    have h2 : Int.tdiv x 10 = -((u / 10 : Nat) : Int) := by rw [hx, Int.neg_tdiv, Int.tdiv_eq_ediv_of_nonneg (by omega)]; rfl
    rw [h1, h2]
    by_cases c : u % 10 = 0
    ·have hf := fig1 0 (by omega)
     rw [if_neg (by omega), c, show -((0 : Nat) : Int) = ((0 : Nat) : Int) from rfl, hf]
     simp only [Option.bind_some]
     rw [c] at hsz e ht
     rw [hsz, hz, if_pos (by omega), w64 (by omega) (by omega), e, ih _ (u / 10) _ (Or.inr rfl) hd (by omega) (by simp only [List.length_cons]; omega) (by omega), ht]
    ·rw [if_pos (by omega), w64 (n := - -((u % 10 : Nat) : Int)) (by omega) (by omega), Int.neg_neg, fig1 _ hv]
     simp only [Option.bind_some]
     rw [hsz, hz, if_pos (by omega), w64 (by omega) (by omega), e, ih _ (u / 10) _ (Or.inr rfl) hd (by omega) (by simp only [List.length_cons]; omega) (by omega), ht]
theorem sfmt (n : Int) (h0 : -9223372036854775808 ≤ n) (h1 : n ≤ 9223372036854775807) (k : Nat) (hk : 20 ≤ k) : spec_FormatInt.f k n = some ⟨(Lib.itoa n).toArray⟩ := by
 have hp : (9223372036854775808 : Nat) < 10 ^ 19 := by decide
 unfold spec_FormatInt.f Lib.itoa
 by_cases c : n = 0
 ·rw [if_pos c, c, if_neg (by omega), show (0 : Int).toNat = 0 from rfl, Lib.decDigits_one (by omega)]; rfl
 ·rw [if_neg c]
  have h := fmt_loop (decide (n < 0)) 19 n n.natAbs [] (by omega) (by omega) (by omega) (by simp) h1
  have e : (⟨#[]⟩ : ByteArray) = ⟨([] : List UInt8).toArray⟩ := rfl
  rw [e, at_rounds (fun k => spec_FormatInt.mono_l k _ _ _) (by omega : 19 + 1 ≤ k) h, List.append_nil]
  have hd : dgs n.natAbs = Lib.decDigits n.natAbs := by unfold dgs; rw [if_neg (by omega)]
  rw [hd]
  by_cases d : n < 0
  ·rw [if_pos (decide_eq_true d), if_pos d]
  ·rw [if_neg (by simp; omega), if_neg d, show n.natAbs = n.toNat by omega]
theorem ifmt (n : Int) (h0 : -9223372036854775808 ≤ n) (h1 : n ≤ 9223372036854775807) : impl_FormatInt.f n = some ⟨(Lib.itoa n).toArray⟩ := by
 unfold impl_FormatInt.f
 rw [if_pos ⟨h0, h1⟩]
theorem in_eq (a b c : Int) : spec_l01In.f a b c = some (decide (b ≤ a ∧ a ≤ c)) := by
 unfold spec_l01In.f
 by_cases h : a ≥ b
 ·rw [if_pos h]; simp; omega
 ·rw [if_neg h]; simp; omega
theorem within_eq (a b c : Int) : impl_within.f a b c = some (decide (b ≤ a ∧ a ≤ c)) := by
 unfold impl_within.f
 by_cases h : a ≥ b
 ·rw [if_pos h]; simp; omega
 ·rw [if_neg h]; simp; omega
/-- A valid expression. -/
def eok (o a b : Int) : Bool := decide (1 ≤ o ∧ o ≤ 7) && (decide (-8 ≤ a ∧ a ≤ 999) && decide (-8 ≤ b ∧ b ≤ 999))
theorem iexpr (o a b : Int) : impl_ExprOk.f o a b = some (eok o a b) := by
 unfold impl_ExprOk.f impl_OperandOk.f eok
 simp only [within_eq, Option.bind_some]
 cases decide (1 ≤ o ∧ o ≤ 7) <;> cases decide (-8 ≤ a ∧ a ≤ 999) <;> simp
theorem eok_in {o a b : Int} (h : eok o a b = true) : (1 ≤ o ∧ o ≤ 7) ∧ (-8 ≤ a ∧ a ≤ 999) ∧ (-8 ≤ b ∧ b ≤ 999) := by
 unfold eok at h
 simp only [Bool.and_eq_true, decide_eq_true_eq] at h
 exact h
theorem sexpr (o a b : Int) : spec_ExprOk.f o a b = some (eok o a b) := by
 unfold spec_ExprOk.f spec_OperandOk.f eok
 simp only [in_eq, Option.bind_some]
 cases decide (1 ≤ o ∧ o ≤ 7) <;> cases decide (-8 ≤ a ∧ a ≤ 999) <;> simp
/-- A valid statement. -/
def zok (o a b : Int) : Bool := decide (o = 0) && (decide (a = 0) && decide (b = 0))
def sok (c v n o a b : Int) : Bool :=
 if c = 1 then decide (0 ≤ v ∧ v ≤ 7) && (decide (n = 0) && eok o a b)
 else if c = 2 then decide (0 ≤ v ∧ v ≤ 7) && (decide (0 ≤ n ∧ n ≤ 3) && zok o a b)
 else if c = 3 then decide (v = 0) && (decide (n = 0) && eok o a b)
 else if c = 4 then decide (v = 0) && (decide (n = 0) && eok o a b)
 else if c = 5 then decide (v = 0) && (decide (1 ≤ n ∧ n ≤ 5) && zok o a b)
 else if c = 6 then decide (v = 0) && (decide (n = 0) && zok o a b)
 else false
theorem hasVar_eq (c : Int) : impl_hasVar.f c = some (decide (c = 1 ∨ c = 2)) := by
 unfold impl_hasVar.f
 by_cases h : c = 1
 ·rw [if_pos h]; simp [h]
 ·rw [if_neg h]; simp [h]; rfl
theorem hasExpr_eq (c : Int) : impl_hasExpr.f c = some (decide (c = 1 ∨ c = 3 ∨ c = 4)) := by
 unfold impl_hasExpr.f
 by_cases h : c = 1
 ·rw [if_pos h]; simp [h]
 ·rw [if_neg h]
  by_cases h2 : c = 3
  ·rw [if_pos h2]; simp [h2]
  ·rw [if_neg h2]; simp [h, h2]; rfl
theorem isVar_eq (v : Int) : impl_isVar.f v = some (decide (0 ≤ v ∧ v ≤ 7)) := by
 unfold impl_isVar.f; rw [within_eq]; rfl
theorem isSensor_eq (v : Int) : impl_isSensor.f v = some (decide (0 ≤ v ∧ v ≤ 3)) := by
 unfold impl_isSensor.f; rw [within_eq]; rfl
theorem istmt (c v n o a b : Int) (k : Nat) (hk : 2 ≤ k) : impl_StmtOk.f k c v n o a b = some (sok c v n o a b) := by
 obtain ⟨k, rfl⟩ : ∃ m, k = m + 2 := ⟨k - 2, by omega⟩
 unfold impl_StmtOk.f sok zok
 simp only [within_eq, hasVar_eq, isVar_eq, hasExpr_eq, isSensor_eq, iexpr, Option.bind_some, impl_StmtOk.j0, impl_StmtOk.j1]
 by_cases h1 : c = 1
 ·subst h1
  cases decide (0 ≤ v ∧ v ≤ 7) <;> cases eok o a b <;> by_cases hn : n = 0 <;> simp [hn]
 ·by_cases h2 : c = 2
  ·subst h2
   cases decide (0 ≤ v ∧ v ≤ 7) <;> cases decide (0 ≤ n ∧ n ≤ 3) <;> by_cases ho : o = 0 <;> by_cases ha : a = 0 <;> by_cases hb : b = 0 <;> simp [ho, ha, hb]
  ·by_cases h3 : c = 3
   ·subst h3
    cases eok o a b <;> by_cases hn : n = 0 <;> by_cases hv : v = 0 <;> simp [hn, hv]
   ·by_cases h4 : c = 4
    ·subst h4
     cases eok o a b <;> by_cases hn : n = 0 <;> by_cases hv : v = 0 <;> simp [hn, hv]
    ·by_cases h5 : c = 5
     ·subst h5
      cases decide (1 ≤ n ∧ n ≤ 5) <;> by_cases hv : v = 0 <;> by_cases ho : o = 0 <;> by_cases ha : a = 0 <;> by_cases hb : b = 0 <;> simp [hv, ho, ha, hb]
     ·by_cases h6 : c = 6
      ·subst h6
       by_cases hn : n = 0 <;> by_cases hv : v = 0 <;> by_cases ho : o = 0 <;> by_cases ha : a = 0 <;> by_cases hb : b = 0 <;> simp [hn, hv, ho, ha, hb]
      ·have hw : ¬ (1 ≤ c ∧ c ≤ 6) := by omega
       simp [h1, h2, h3, h4, h5, h6, hw]
theorem sstmt (c v n o a b : Int) (k : Nat) (hk : 2 ≤ k) : spec_StmtOk.f k c v n o a b = some (sok c v n o a b) := by
 obtain ⟨k, rfl⟩ : ∃ m, k = m + 2 := ⟨k - 2, by omega⟩
 unfold spec_StmtOk.f spec_l04Plain.f sok zok
 simp only [in_eq, sexpr, Option.bind_some, spec_StmtOk.j0]
 by_cases h1 : c = 1
 ·subst h1
  cases decide (0 ≤ v ∧ v ≤ 7) <;> cases eok o a b <;> by_cases hn : n = 0 <;> simp [hn]
 ·by_cases h2 : c = 2
  ·subst h2
   cases decide (0 ≤ v ∧ v ≤ 7) <;> cases decide (0 ≤ n ∧ n ≤ 3) <;> by_cases ho : o = 0 <;> by_cases ha : a = 0 <;> by_cases hb : b = 0 <;> simp [ho, ha, hb]
  ·by_cases h3 : c = 3
   ·subst h3
    cases eok o a b <;> by_cases hn : n = 0 <;> by_cases hv : v = 0 <;> simp [hn, hv]
   ·by_cases h4 : c = 4
    ·subst h4
     cases eok o a b <;> by_cases hn : n = 0 <;> by_cases hv : v = 0 <;> simp [hn, hv]
    ·by_cases h5 : c = 5
     ·subst h5
      cases decide (1 ≤ n ∧ n ≤ 5) <;> by_cases hv : v = 0 <;> by_cases ho : o = 0 <;> by_cases ha : a = 0 <;> by_cases hb : b = 0 <;> simp [hv, ho, ha, hb]
     ·by_cases h6 : c = 6
      ·subst h6
       by_cases hn : n = 0 <;> by_cases hv : v = 0 <;> by_cases ho : o = 0 <;> by_cases ha : a = 0 <;> by_cases hb : b = 0 <;> simp [hn, hv, ho, ha, hb]
      ·by_cases hn : n = 0 <;> by_cases hv : v = 0 <;> by_cases ho : o = 0 <;> by_cases ha : a = 0 <;> by_cases hb : b = 0 <;> simp [h1, h2, h3, h4, h5, h6, hn, hv, ho, ha, hb]
theorem rd_app (pre : List S35) (a : S35) (t : List S35) : rd_T35 (pre ++ a :: t) (pre.length : Int) = a := by
 unfold rd_T35
 simp [List.getD]
def okS (s : S35) : Bool := sok s.f0 s.f1 s.f2 s.f3.f0 s.f3.f1 s.f3.f2
def opn (s : S35) : Bool := decide (s.f0 = 4 ∨ s.f0 = 5)
def del (s : S35) : Int := if s.f0 = 4 ∨ s.f0 = 5 then 1 else if s.f0 = 6 then -1 else 0
theorem del_in (s : S35) : -1 ≤ del s ∧ del s ≤ 1 := by unfold del; split <;> (try split) <;> omega
def scan : List S35 → Int → Option Int
 | [], d => some d
 | s :: t, d => if okS s = true then (if 0 ≤ d + del s ∧ d + del s ≤ 3 then scan t (d + del s) else none) else none
def fin (o : Option Int) (n : Nat) : Bool := decide (o = some 0) && decide (n ≤ 24)
/-- Whether the statements are a valid block. -/
def blk (l : List S35) : Bool := fin (scan l 0) l.length
theorem opening_eq (c : Int) : impl_isOpening.f c = some (decide (c = 4 ∨ c = 5)) := by
 unfold impl_isOpening.f
 by_cases h : c = 4
 ·simp [h]
 ·rw [if_neg h]; congr 1; rw [Bool.eq_iff_iff]; simp [h]
theorem iscan (suf : List S35) : ∀ (k : Nat) (pre x : List S35) (d : Int), x = pre ++ suf → x.length ≤ 140737488351232 → 2 * suf.length + 4 ≤ k → 0 ≤ d → d ≤ 3 →
  impl_BlockOk.l0 k x d x (x.length : Int) (pre.length : Int) = some (fin (scan suf d) x.length) := by
 induction suf with
 | nil =>
  intro k pre x d hx hz hk d0 d1
  obtain ⟨k, rfl⟩ : ∃ m, k = m + 1 := ⟨k - 1, by omega⟩
  have hl : x.length = pre.length := by simp [hx]
  unfold impl_BlockOk.l0
  rw [if_neg (by omega)]
  unfold scan fin
  by_cases c : d = 0
  ·rw [if_pos c, c]; congr 1; simp; omega
  ·rw [if_neg c]; simp [c]
 | cons a t ih =>
  intro k pre x d hx hz hk d0 d1
  simp only [List.length_cons] at hk
  obtain ⟨k, rfl⟩ : ∃ m, k = m + 2 := ⟨k - 2, by omega⟩
  have hl : x.length = pre.length + (t.length + 1) := by simp [hx]
  have hr : rd_T35 x (pre.length : Int) = a := by rw [hx]; exact rd_app pre a t
  have hn : ((pre.length : Int) + 1) = (((pre ++ [a]).length : Nat) : Int) := by simp
  unfold impl_BlockOk.l0
  rw [if_pos (by omega), if_pos (by omega), if_pos (by omega)]
  simp only [hr]
  rw [istmt _ _ _ _ _ _ _ (by omega)]
  simp only [Option.bind_some]
  have hs : ∀ e, scan (a :: t) e = if okS a = true then (if 0 ≤ e + del a ∧ e + del a ≤ 3 then scan t (e + del a) else none) else none := fun e => rfl
  rw [hs]
  by_cases ok : okS a = true
  ·rw [if_pos ok]
   unfold okS at ok
   rw [if_pos ok, opening_eq]
   simp only [Option.bind_some, decide_eq_true_eq]
   have step : ∀ e : Int, 0 ≤ e → e ≤ 3 → impl_BlockOk.l0 k x e x (x.length : Int) (wrap64 ((pre.length : Int) + 1)) = some (fin (scan t e) x.length) := by
    intro e e0 e1
    rw [w64 (by omega) (by omega), hn]
    exact ih k (pre ++ [a]) x e (by simp [hx]) hz (by omega) e0 e1
   by_cases o : a.f0 = 4 ∨ a.f0 = 5
   ·have hd : del a = 1 := by unfold del; rw [if_pos o]
    rw [if_pos o, hd, w64 (n := d + 1) (by omega) (by omega)]
    unfold impl_BlockOk.j1
    rw [if_neg (by omega), if_neg (by omega)]
    by_cases c : d + 1 > 3
    ·rw [if_pos c, if_neg (by omega)]; simp [fin]
    ·rw [if_neg c, if_pos (by omega)]
     exact step _ (by omega) (by omega)
   ·rw [if_neg o]
    unfold impl_BlockOk.j1
    by_cases c6 : a.f0 = 6
    ·have hd : del a = -1 := by unfold del; rw [if_neg o, if_pos c6]
     rw [if_pos c6, hd, w64 (n := d - 1) (by omega) (by omega)]
     by_cases c : d - 1 < 0
     ·rw [if_pos c, if_neg (by omega)]; simp [fin]
     ·rw [if_neg c, if_neg (by omega), if_pos (by omega)]
      exact step _ (by omega) (by omega)
    ·have hd : del a = 0 := by unfold del; rw [if_neg o, if_neg c6]
     rw [if_neg c6, hd, if_neg (by omega), if_neg (by omega), if_pos (by omega), show d + 0 = d by omega]
     exact step _ (by omega) (by omega)
  ·rw [if_neg ok]
   unfold okS at ok
   rw [if_neg ok]
   simp [fin]
theorem iblock (l : List S35) (hz : l.length ≤ 140737488351232) (k : Nat) (hk : 2 * l.length + 4 ≤ k) : impl_BlockOk.f k l = some (blk l) :=
 iscan l k [] l 0 rfl hz hk (by omega) (by omega)
theorem sscan (suf : List S35) : ∀ (k : Nat) (pre x : List S35) (d : Int), x = pre ++ suf → x.length ≤ 140737488351232 → 2 * suf.length + 4 ≤ k → 0 ≤ d → d ≤ 3 →
  spec_BlockOk.l0 k x d (pre.length : Int) = some (fin (scan suf d) x.length) := by
 induction suf with
 | nil =>
  intro k pre x d hx hz hk d0 d1
  obtain ⟨k, rfl⟩ : ∃ m, k = m + 1 := ⟨k - 1, by omega⟩
  have hl : x.length = pre.length := by simp [hx]
  unfold spec_BlockOk.l0
  rw [if_neg (by omega)]
  unfold scan fin
  by_cases c : d = 0
  ·rw [if_pos c, c]; congr 1; simp; omega
  ·rw [if_neg c]; simp [c]
 | cons a t ih =>
  intro k pre x d hx hz hk d0 d1
  simp only [List.length_cons] at hk
  obtain ⟨k, rfl⟩ : ∃ m, k = m + 2 := ⟨k - 2, by omega⟩
  have hl : x.length = pre.length + (t.length + 1) := by simp [hx]
  have hr : rd_T35 x (pre.length : Int) = a := by rw [hx]; exact rd_app pre a t
  have hn : ((pre.length : Int) + 1) = (((pre ++ [a]).length : Nat) : Int) := by simp
  unfold spec_BlockOk.l0
  rw [if_pos (by omega), if_pos (by omega)]
  simp only [hr]
  rw [sstmt _ _ _ _ _ _ _ (by omega)]
  simp only [Option.bind_some]
  have hs : ∀ e, scan (a :: t) e = if okS a = true then (if 0 ≤ e + del a ∧ e + del a ≤ 3 then scan t (e + del a) else none) else none := fun e => rfl
  rw [hs]
  by_cases ok : okS a = true
  ·rw [if_pos ok]
   unfold okS at ok
   rw [if_pos ok]
   have step : ∀ e : Int, 0 ≤ e → e ≤ 3 → spec_BlockOk.l0 k x e (wrap64 ((pre.length : Int) + 1)) = some (fin (scan t e) x.length) := by
    intro e e0 e1
    rw [w64 (by omega) (by omega), hn]
    exact ih k (pre ++ [a]) x e (by simp [hx]) hz (by omega) e0 e1
   have hj : ∀ b : Bool, b = decide (a.f0 = 4 ∨ a.f0 = 5) → spec_BlockOk.j1 (k + 1) x d (pre.length : Int) a.f0 b = some (fin (if 0 ≤ d + del a ∧ d + del a ≤ 3 then scan t (d + del a) else none) x.length) := by
    intro b hb
    unfold spec_BlockOk.j1
    by_cases o : a.f0 = 4 ∨ a.f0 = 5
    ·have hd : del a = 1 := by unfold del; rw [if_pos o]
     rw [if_pos (by rw [hb]; exact decide_eq_true o), hd, w64 (n := d + 1) (by omega) (by omega), in_eq]
     simp only [Option.bind_some, decide_eq_true_eq]
     by_cases c : 0 ≤ d + 1 ∧ d + 1 ≤ 3
     ·rw [if_pos c, if_pos c]; exact step _ c.1 c.2
     ·rw [if_neg c, if_neg c]; simp [fin]
    ·rw [if_neg (by rw [hb]; simp; omega)]
     by_cases c6 : a.f0 = 6
     ·have hd : del a = -1 := by unfold del; rw [if_neg o, if_pos c6]
      rw [if_pos c6, hd, w64 (n := d - 1) (by omega) (by omega), in_eq, show d + -1 = d - 1 by omega]
      simp only [Option.bind_some, decide_eq_true_eq]
      by_cases c : 0 ≤ d - 1 ∧ d - 1 ≤ 3
      ·rw [if_pos c, if_pos c]; exact step _ c.1 c.2
      ·rw [if_neg c, if_neg c]; simp [fin]
     ·have hd : del a = 0 := by unfold del; rw [if_neg o, if_neg c6]
      rw [if_neg c6, hd, in_eq, show d + 0 = d by omega]
      simp only [Option.bind_some, decide_eq_true_eq]
      rw [if_pos ⟨d0, d1⟩, if_pos ⟨d0, d1⟩]; exact step _ d0 d1
   by_cases c4 : a.f0 = 4
   ·rw [if_pos c4]
    exact hj _ (by simp [c4])
   ·rw [if_neg c4]
    exact hj _ (by rw [Bool.eq_iff_iff]; simp [c4])
  ·rw [if_neg ok]
   unfold okS at ok
   rw [if_neg ok]
   simp [fin]
theorem sblock (l : List S35) (hz : l.length ≤ 140737488351232) (k : Nat) (hk : 2 * l.length + 4 ≤ k) : spec_BlockOk.f k l = some (blk l) :=
 sscan l k [] l 0 rfl hz hk (by omega) (by omega)
theorem rd_app62 (pre : List S40) (a : S40) (t : List S40) : rd_T40 (pre ++ a :: t) (pre.length : Int) = a := by
 unfold rd_T40
 simp [List.getD]
/-- A valid task. -/
def tok (s : S40) : Bool := blk s.f0 && eok s.f1.f0 s.f1.f1 s.f1.f2
/-- A valid program. -/
def pok (l : List S40) : Bool := decide (1 ≤ (l.length : Int) ∧ (l.length : Int) ≤ 6) && l.all tok
/-- Bodies that aren't longer than all that is asked. -/
def Small (l : List S40) : Prop := l.length ≤ 1048576 ∧ ∀ s ∈ l, s.f0.length ≤ 1048576
theorem itask (s : S40) (hz : s.f0.length ≤ 1048576) (k : Nat) (hk : 2097160 ≤ k) : impl_taskOk.f k s.f0 s.f1.f0 s.f1.f1 s.f1.f2 = some (tok s) := by
 unfold impl_taskOk.f tok
 rw [iblock s.f0 (by omega) k (by omega), iexpr]
 simp only [Option.bind_some]
 cases blk s.f0 <;> simp
theorem iprog_loop (suf : List S40) : ∀ (k : Nat) (pre x : List S40), x = pre ++ suf → Small x → suf.length + 2097162 ≤ k →
  impl_ProgramOk.l0 k x (pre.length : Int) = some (suf.all tok) := by
 induction suf with
 | nil =>
  intro k pre x hx hz hk
  obtain ⟨k, rfl⟩ : ∃ m, k = m + 1 := ⟨k - 1, by omega⟩
  have hl : x.length = pre.length := by simp [hx]
  simp only [impl_ProgramOk.l0]
  rw [if_neg (by omega)]
  rfl
 | cons a t ih =>
  intro k pre x hx hz hk
  simp only [List.length_cons] at hk
  obtain ⟨k, rfl⟩ : ∃ m, k = m + 1 := ⟨k - 1, by omega⟩
  have hl : x.length = pre.length + (t.length + 1) := by simp [hx]
  have hr : rd_T40 x (pre.length : Int) = a := by rw [hx]; exact rd_app62 pre a t
  have hn : ((pre.length : Int) + 1) = (((pre ++ [a]).length : Nat) : Int) := by simp
  simp only [impl_ProgramOk.l0]
  rw [if_pos (by omega), if_pos (by omega), hr, itask a (hz.2 a (by simp [hx])) k (by omega)]
  simp only [Option.bind_some, List.all_cons]
  by_cases c : tok a = true
  ·rw [if_pos c, c, hn, ih k (pre ++ [a]) x (by simp [hx]) hz (by omega)]
   rfl
  ·rw [if_neg c, Bool.eq_false_iff.mpr c]
   rfl
theorem iprog (x : List S40) (hz : Small x) (k : Nat) (hk : x.length + 2097162 ≤ k) : impl_ProgramOk.f k x = some (pok x) := by
 unfold impl_ProgramOk.f pok
 rw [within_eq]
 simp only [Option.bind_some]
 by_cases c : 1 ≤ (x.length : Int) ∧ (x.length : Int) ≤ 6
 ·rw [decide_eq_true c, if_pos rfl]
  have := iprog_loop x k [] x rfl hz hk
  simp only [List.length_nil] at this
  rw [show ((0 : Nat) : Int) = 0 from rfl] at this
  rw [this, Bool.true_and]
 ·rw [decide_eq_false c, if_neg (by simp), Bool.false_and]
theorem sprog_loop (suf : List S40) : ∀ (k : Nat) (pre x : List S40), x = pre ++ suf → Small x → suf.length + 2097162 ≤ k →
  spec_ProgramOk.l0 k (pre.length : Int) x = some (decide (1 ≤ (x.length : Int) ∧ (x.length : Int) ≤ 6) && suf.all tok) := by
 induction suf with
 | nil =>
  intro k pre x hx hz hk
  obtain ⟨k, rfl⟩ : ∃ m, k = m + 1 := ⟨k - 1, by omega⟩
  have hl : x.length = pre.length := by simp [hx]
  simp only [spec_ProgramOk.l0]
  rw [if_neg (by omega), in_eq]
  simp
 | cons a t ih =>
  intro k pre x hx hz hk
  simp only [List.length_cons] at hk
  obtain ⟨k, rfl⟩ : ∃ m, k = m + 1 := ⟨k - 1, by omega⟩
  have hl : x.length = pre.length + (t.length + 1) := by simp [hx]
  have hr : rd_T40 x (pre.length : Int) = a := by rw [hx]; exact rd_app62 pre a t
  have hn : ((pre.length : Int) + 1) = (((pre ++ [a]).length : Nat) : Int) := by simp
  have hs := hz.2 a (by simp [hx])
  have hz1 := hz.1
  simp only [spec_ProgramOk.l0]
  rw [if_pos (by omega), if_pos (by omega), hr, sblock a.f0 (by omega) k (by omega)]
  simp only [Option.bind_some, List.all_cons]
  by_cases c : blk a.f0 = true
  ·rw [if_pos c, sexpr]
   simp only [Option.bind_some]
   by_cases c2 : eok a.f1.f0 a.f1.f1 a.f1.f2 = true
   ·have ht : tok a = true := by unfold tok; rw [c, c2]; rfl
    rw [if_pos c2, w64 (by omega) (by omega), hn, ih k (pre ++ [a]) x (by simp [hx]) hz (by omega), ht, Bool.true_and]
   ·have ht : tok a = false := by unfold tok; rw [Bool.eq_false_iff.mpr c2, Bool.and_false]
    rw [if_neg c2, ht, Bool.false_and, Bool.and_false]
  ·have ht : tok a = false := by unfold tok; rw [Bool.eq_false_iff.mpr c, Bool.false_and]
   rw [if_neg c, ht, Bool.false_and, Bool.and_false]
theorem sprog (x : List S40) (hz : Small x) (k : Nat) (hk : x.length + 2097162 ≤ k) : spec_ProgramOk.f k x = some (pok x) := by
 unfold spec_ProgramOk.f pok
 have := sprog_loop x k [] x rfl hz hk
 simp only [List.length_nil] at this
 rw [show ((0 : Nat) : Int) = 0 from rfl] at this
 exact this
/-- A number behind a space. -/
def spn (n : Int) : List UInt8 := 32 :: Lib.itoa n
/-- A statement's word. -/
def kw (c : Int) : List UInt8 := if c = 1 then [115, 101, 116] else if c = 2 then [115, 101, 110, 115, 101] else if c = 3 then [115, 101, 110, 100] else if c = 4 then [105, 102] else if c = 5 then [108, 111, 111, 112] else [101, 110, 100]
/-- A statement's numbers. -/
def nums (c v n o a b : Int) : List Int := if c = 1 then [v, o, a, b] else if c = 2 then [v, n] else if c = 3 ∨ c = 4 then [o, a, b] else if c = 5 then [n] else []
/-- A statement's text. -/
def canon (c v n o a b : Int) : List UInt8 := kw c ++ (nums c v n o a b).flatMap spn
theorem rd_at (pre : List Int) (n : Int) (u : List Int) : rd (pre ++ n :: u) (pre.length : Int) = n := by
 unfold Go.Proofs.YtcpmkcidehhbiaaGreatDoorW.PrintWords.rd
 simp [List.getD]
def i64 (n : Int) : Prop := -9223372036854775808 ≤ n ∧ n ≤ 9223372036854775807
theorem spn_tx (n : Int) : (⟨#[32]⟩ : ByteArray) ++ (⟨(Lib.itoa n).toArray⟩ : ByteArray) = tx (spn n) := tx_app [32] (Lib.itoa n)
theorem spn_len {n : Int} (h : i64 n) : (spn n).length ≤ 21 := by
 have := itoa_len h.1 h.2
 unfold spn
 rw [List.length_cons]; omega
theorem spaced_loop (ns : List Int) (hl : ns.length ≤ 100) (u : List Int) : ∀ (k : Nat) (x : List UInt8) (pre : List Int), ns = pre ++ u → (∀ n ∈ u, i64 n) → x.length + 30 * u.length ≤ 100000 → u.length < k →
  impl_spaced.l0 k (tx x) ns (ns.length : Int) (pre.length : Int) = some (tx (x ++ u.flatMap spn)) := by
 induction u with
 | nil =>
  intro k x pre e _ _ hk
  obtain ⟨k, rfl⟩ : ∃ m, k = m + 1 := ⟨k - 1, by omega⟩
  simp only [impl_spaced.l0]
  rw [if_neg (by rw [e]; simp)]
  simp
 | cons n u ih =>
  intro k x pre e hn hx hk
  simp only [List.length_cons] at hk hx
  obtain ⟨k, rfl⟩ : ∃ m, k = m + 1 := ⟨k - 1, by omega⟩
  have hlen : ns.length = pre.length + (u.length + 1) := by rw [e]; simp
  have h0 := hn n (by simp)
  have hs := spn_len h0
  have hz : (⟨(Lib.itoa n).toArray⟩ : ByteArray).size = (Lib.itoa n).length := tx_size _
  have hi := itoa_len h0.1 h0.2
  have i2 := ih k (x ++ spn n) (pre ++ [n]) (by rw [e]; simp) (fun y hy => hn y (by simp [hy])) (by rw [List.length_append]; omega) (by omega)
  rw [List.length_append, List.length_singleton] at i2
  simp only [impl_spaced.l0]
  rw [if_pos (by omega), if_pos (by omega), if_pos (by omega), show rd ns (pre.length : Int) = n by rw [e]; exact rd_at pre n u, ifmt n h0.1 h0.2]
  simp only [Option.bind_some]
  rw [spn_tx, tx_size, tx_size, hz, if_pos (by omega), if_pos (by omega), tx_app, w64 (by omega) (by omega), show ((pre.length : Nat) : Int) + 1 = ((pre.length + 1 : Nat) : Int) by omega, i2]
  simp
theorem spaced_tells (x : List UInt8) (ns : List Int) (hl : ns.length ≤ 100) (hx : x.length ≤ 1000) (hn : ∀ n ∈ ns, i64 n) (k : Nat) (hk : ns.length < k) : impl_spaced.f k (tx x) ns = some (tx (x ++ ns.flatMap spn)) := by
 unfold impl_spaced.f
 exact spaced_loop ns hl ns k x [] (by simp) hn (by omega) hk
theorem hasN_eq (c : Int) : impl_hasN.f c = some (decide (c = 2 ∨ c = 5)) := by
 unfold impl_hasN.f
 by_cases h : c = 2
 ·rw [if_pos h]; simp [h]
 ·rw [if_neg h]; simp [h]; rfl
theorem sok_kind {c v n o a b : Int} (h : sok c v n o a b = true) : c = 1 ∨ c = 2 ∨ c = 3 ∨ c = 4 ∨ c = 5 ∨ c = 6 := by
 unfold sok at h
 by_cases h1 : c = 1; · exact Or.inl h1
 by_cases h2 : c = 2; · exact Or.inr (Or.inl h2)
 by_cases h3 : c = 3; · exact Or.inr (Or.inr (Or.inl h3))
 by_cases h4 : c = 4; · exact Or.inr (Or.inr (Or.inr (Or.inl h4)))
 by_cases h5 : c = 5; · exact Or.inr (Or.inr (Or.inr (Or.inr (Or.inl h5))))
 by_cases h6 : c = 6; · exact Or.inr (Or.inr (Or.inr (Or.inr (Or.inr h6))))
 rw [if_neg h1, if_neg h2, if_neg h3, if_neg h4, if_neg h5, if_neg h6] at h
 cases h
/-- The numbers of a valid statement are small. -/
theorem nums_small {c v n o a b : Int} (h : sok c v n o a b = true) : ∀ x ∈ nums c v n o a b, -8 ≤ x ∧ x ≤ 999 := by
 intro x hx
 rcases sok_kind h with rfl | rfl | rfl | rfl | rfl | rfl
 ·simp only [sok, if_true, Bool.and_eq_true, decide_eq_true_eq] at h
  have he := eok_in h.2.2
  simp only [nums, if_true, List.mem_cons, List.not_mem_nil, or_false] at hx
  omega
 ·simp [sok] at h
  simp [nums] at hx
  omega
 ·simp [sok] at h
  have he := eok_in h.2.2
  simp [nums] at hx
  omega
 ·simp [sok] at h
  have he := eok_in h.2.2
  simp [nums] at hx
  omega
 ·simp [sok] at h
  simp [nums] at hx
  omega
 ·simp [nums] at hx
theorem nums_len (c v n o a b : Int) : (nums c v n o a b).length ≤ 4 := by
 unfold nums
 repeat' split
 all_goals simp
theorem kw_len (c : Int) : (kw c).length ≤ 5 := by
 unfold kw
 repeat' split
 all_goals simp
theorem iformat (c v n o a b : Int) (k : Nat) (hk : 20 ≤ k) : impl_FormatStmt.f k c v n o a b = some (tx (if sok c v n o a b = true then canon c v n o a b else [])) := by
 unfold impl_FormatStmt.f
 rw [istmt c v n o a b k (by omega)]
 simp only [Option.bind_some]
 by_cases h : sok c v n o a b = true
 ·rw [if_pos h, if_pos h]
  have hs := nums_small h
  have hi : ∀ x ∈ nums c v n o a b, i64 x := fun x hx => by have := hs x hx; unfold i64; omega
  have hsp := spaced_tells (kw c) (nums c v n o a b) (by have := nums_len c v n o a b; omega) (by have := kw_len c; omega) hi
  obtain ⟨k, rfl⟩ : ∃ m, k = m + 2 := ⟨k - 2, by omega⟩
  have h2 := hsp k (by have := nums_len c v n o a b; omega)
  unfold canon
  rcases sok_kind h with rfl | rfl | rfl | rfl | rfl | rfl <;>
   simp [hasVar_eq, hasN_eq, hasExpr_eq, impl_FormatStmt.j0, impl_FormatStmt.j1, impl_stmtNames.f, Go.Proofs.YtcpmkcidehhbiaaGreatDoorW.PrintWords.rdOf, nums, kw] at h2 ⊢ <;> exact h2
 ·rw [if_neg h, if_neg h]; rfl
theorem sfmt_tx {n : Int} (h : i64 n) (k : Nat) (hk : 20 ≤ k) : spec_FormatInt.f k n = some (tx (Lib.itoa n)) := sfmt n h.1 h.2 k hk
theorem l04_tells {o a b : Int} (ho : i64 o) (ha : i64 a) (hb : i64 b) (k : Nat) (hk : 20 ≤ k) : spec_l04Expr.f k o a b = some (tx ([o, a, b].flatMap spn)) := by
 have h1 := itoa_len ho.1 ho.2
 have h2 := itoa_len ha.1 ha.2
 have h3 := itoa_len hb.1 hb.2
 have e : (⟨#[32]⟩ : ByteArray) = tx [32] := rfl
 unfold spec_l04Expr.f
 rw [sfmt_tx ho k hk, sfmt_tx ha k hk, sfmt_tx hb k hk]
 simp only [Option.bind_some, e, tx_app, tx_size, List.length_append, List.length_singleton]
 rw [if_pos (by omega), if_pos (by omega), if_pos (by omega), if_pos (by omega), if_pos (by omega)]
 congr 2
 simp [spn]
theorem sformat (c v n o a b : Int) (k : Nat) (hk : 20 ≤ k) : spec_FormatStmt.f k c v n o a b = some (tx (if sok c v n o a b = true then canon c v n o a b else [])) := by
 unfold spec_FormatStmt.f
 rw [sstmt c v n o a b k (by omega)]
 simp only [Option.bind_some]
 by_cases h : sok c v n o a b = true
 ·rw [if_pos h, if_pos h]
  have hs := nums_small h
  have hi : ∀ x ∈ nums c v n o a b, i64 x := fun x hx => by have := hs x hx; unfold i64; omega
  unfold canon
  rcases sok_kind h with rfl | rfl | rfl | rfl | rfl | rfl
  ·simp only [nums, if_true, List.mem_cons, List.not_mem_nil, or_false, forall_eq_or_imp, forall_eq] at hi
   have h1 := itoa_len hi.1.1 hi.1.2
   have h2 := spn_len hi.2.1
   have h3 := spn_len hi.2.2.1
   have h4 := spn_len hi.2.2.2
   rw [if_pos rfl, sfmt_tx hi.1 k hk, l04_tells hi.2.1 hi.2.2.1 hi.2.2.2 k hk]
   have e : (⟨#[115, 101, 116, 32]⟩ : ByteArray) = tx [115, 101, 116, 32] := rfl
   simp only [Option.bind_some, e, tx_app, tx_size, List.length_append, List.length_cons, List.length_nil, List.flatMap_cons, List.flatMap_nil]
   rw [if_pos (by omega), if_pos (by omega)]
   simp [nums, kw, spn]
  ·simp [nums] at hi
   have h1 := itoa_len hi.1.1 hi.1.2
   have h2 := itoa_len hi.2.1 hi.2.2
   rw [if_neg (by omega), if_pos rfl, sfmt_tx hi.1 k hk, sfmt_tx hi.2 k hk]
   have e : (⟨#[115, 101, 110, 115, 101, 32]⟩ : ByteArray) = tx [115, 101, 110, 115, 101, 32] := rfl
   have e2 : (⟨#[32]⟩ : ByteArray) = tx [32] := rfl
   simp only [Option.bind_some, e, e2, tx_app, tx_size, List.length_append, List.length_cons, List.length_nil]
   rw [if_pos (by omega), if_pos (by omega), if_pos (by omega)]
   simp [nums, kw, spn]
  ·simp [nums] at hi
   have h2 := spn_len hi.1
   have h3 := spn_len hi.2.1
   have h4 := spn_len hi.2.2
   rw [if_neg (by omega), if_neg (by omega), if_pos rfl, l04_tells hi.1 hi.2.1 hi.2.2 k hk]
   have e : (⟨#[115, 101, 110, 100]⟩ : ByteArray) = tx [115, 101, 110, 100] := rfl
   simp only [Option.bind_some, e, tx_app, tx_size, List.length_append, List.length_cons, List.length_nil, List.flatMap_cons, List.flatMap_nil]
   rw [if_pos (by omega)]
   simp [nums, kw, spn]
  ·simp [nums] at hi
   have h2 := spn_len hi.1
   have h3 := spn_len hi.2.1
   have h4 := spn_len hi.2.2
   rw [if_neg (by omega), if_neg (by omega), if_neg (by omega), if_pos rfl, l04_tells hi.1 hi.2.1 hi.2.2 k hk]
   have e : (⟨#[105, 102]⟩ : ByteArray) = tx [105, 102] := rfl
   simp only [Option.bind_some, e, tx_app, tx_size, List.length_append, List.length_cons, List.length_nil, List.flatMap_cons, List.flatMap_nil]
   rw [if_pos (by omega)]
   simp [nums, kw, spn]
  ·simp [nums] at hi
   have h1 := itoa_len hi.1 hi.2
   rw [if_neg (by omega), if_neg (by omega), if_neg (by omega), if_neg (by omega), if_pos rfl, sfmt_tx hi k hk]
   have e : (⟨#[108, 111, 111, 112, 32]⟩ : ByteArray) = tx [108, 111, 111, 112, 32] := rfl
   simp only [Option.bind_some, e, tx_app, tx_size, List.length_append, List.length_cons, List.length_nil]
   rw [if_pos (by omega)]
   simp [nums, kw, spn]
  ·rw [if_neg (by omega), if_neg (by omega), if_neg (by omega), if_neg (by omega), if_neg (by omega)]
   rfl
 ·rw [if_neg h, if_neg h]; rfl
def stx (s : S35) : List UInt8 := if sok s.f0 s.f1 s.f2 s.f3.f0 s.f3.f1 s.f3.f2 = true then canon s.f0 s.f1 s.f2 s.f3.f0 s.f3.f1 s.f3.f2 else []
def tln (s : S40) : List UInt8 := [116, 97, 115, 107] ++ [s.f1.f0, s.f1.f1, s.f1.f2].flatMap spn
def bodyT (l : List S35) : List UInt8 := l.flatMap fun s => stx s ++ [10]
def ptxt (l : List S40) : List UInt8 := l.flatMap fun s => (tln s ++ [10]) ++ bodyT s.f0
theorem flat_len (l : List Int) (h : ∀ x ∈ l, i64 x) : (l.flatMap spn).length ≤ 21 * l.length := by
 induction l with
 | nil => simp
 | cons a l ih =>
  have h1 := spn_len (h a (by simp))
  have h2 := ih (fun x hx => h x (by simp [hx]))
  rw [List.flatMap_cons, List.length_append, List.length_cons]
  omega
theorem canon_len {c v n o a b : Int} (h : sok c v n o a b = true) : (canon c v n o a b).length ≤ 89 := by
 have hs := nums_small h
 have h1 := flat_len (nums c v n o a b) (fun x hx => by have := hs x hx; unfold i64; omega)
 have h2 := nums_len c v n o a b
 have h3 := kw_len c
 unfold canon
 rw [List.length_append]
 omega
theorem stx_len (s : S35) : (stx s).length ≤ 89 := by
 unfold stx
 split
 ·rename_i h; exact canon_len h
 ·simp
theorem tln_len (s : S40) (h : eok s.f1.f0 s.f1.f1 s.f1.f2 = true) : (tln s).length ≤ 67 := by
 have he := eok_in h
 have h1 := flat_len [s.f1.f0, s.f1.f1, s.f1.f2] (fun x hx => by simp at hx; unfold i64; omega)
 unfold tln
 rw [List.length_append]
 simp only [List.length_cons, List.length_nil] at h1 ⊢
 omega
theorem pok_all {l : List S40} (h : pok l = true) : l.length ≤ 6 ∧ 1 ≤ l.length ∧ ∀ s ∈ l, s.f0.length ≤ 24 ∧ eok s.f1.f0 s.f1.f1 s.f1.f2 = true ∧ blk s.f0 = true := by
 unfold pok at h
 simp only [Bool.and_eq_true, decide_eq_true_eq] at h
 refine ⟨by omega, by omega, fun s hs => ?_⟩
 have ht := List.all_eq_true.1 h.2 s hs
 unfold tok at ht
 simp only [Bool.and_eq_true] at ht
 have hb := ht.1
 unfold blk fin at hb
 simp only [Bool.and_eq_true, decide_eq_true_eq] at hb
 exact ⟨hb.2, ht.2, ht.1⟩
theorem tx_nil : (⟨#[]⟩ : ByteArray) = tx [] := rfl
theorem taskLine_tells (s : S40) (h : eok s.f1.f0 s.f1.f1 s.f1.f2 = true) (k : Nat) (hk : 10 ≤ k) : impl_taskLine.f k s.f1.f0 s.f1.f1 s.f1.f2 = some (tx (tln s)) := by
 have he := eok_in h
 unfold impl_taskLine.f
 have hsp := spaced_tells [116, 97, 115, 107] [s.f1.f0, s.f1.f1, s.f1.f2] (by simp) (by simp) (fun x hx => by simp at hx; unfold i64; omega) k (by simp; omega)
 have e : (⟨#[116, 97, 115, 107]⟩ : ByteArray) = tx [116, 97, 115, 107] := rfl
 rw [e, hsp]
 rfl
theorem body_len (l : List S35) : (bodyT l).length ≤ 90 * l.length := by
 induction l with
 | nil => simp [bodyT]
 | cons a l ih =>
  have := stx_len a
  unfold bodyT at ih ⊢
  rw [List.flatMap_cons, List.length_append, List.length_append]
  simp only [List.length_cons, List.length_nil]
  omega
theorem inner_tells (k : Nat) (hk : 20 ≤ k) (l : List S35) : ∀ acc : List UInt8, acc.length + 100 * l.length ≤ 1000000000000 → impl_ProgramText.inner k l acc = some (acc ++ bodyT l) := by
 induction l with
 | nil => intro acc _; simp [impl_ProgramText.inner, bodyT]
 | cons s l ih =>
  intro acc ha
  simp only [List.length_cons] at ha
  have hs := stx_len s
  simp only [impl_ProgramText.inner]
  rw [iformat _ _ _ _ _ _ k hk]
  simp only [Option.bind_some]
  have e : (if sok s.f0 s.f1 s.f2 s.f3.f0 s.f3.f1 s.f3.f2 = true then canon s.f0 s.f1 s.f2 s.f3.f0 s.f3.f1 s.f3.f2 else []) = stx s := rfl
  rw [e, tx_size, if_pos (by omega), tx_list, ih _ (by simp only [List.length_append, List.length_singleton]; omega)]
  simp [bodyT]
theorem outer_tells (k : Nat) (hk : 20 ≤ k) (l : List S40) : ∀ acc : List UInt8, (∀ s ∈ l, s.f0.length ≤ 24 ∧ eok s.f1.f0 s.f1.f1 s.f1.f2 = true) → acc.length + 10000 * l.length ≤ 1000000 → impl_ProgramText.outer k l acc = some (acc ++ ptxt l) := by
 induction l with
 | nil => intro acc _ _; simp [impl_ProgramText.outer, ptxt]
 | cons s l ih =>
  intro acc hs ha
  simp only [List.length_cons] at ha
  have h0 := hs s (by simp)
  have ht := tln_len s h0.2
  have hb0 := body_len s.f0
  simp only [impl_ProgramText.outer]
  rw [taskLine_tells s h0.2 k (by omega)]
  simp only [Option.bind_some]
  rw [tx_size, if_pos (by omega), tx_list, inner_tells k hk s.f0 _ (by simp only [List.length_append, List.length_singleton]; omega)]
  simp only [Option.bind_some]
  rw [ih _ (fun x hx => hs x (by simp [hx])) (by simp only [List.length_append, List.length_singleton]; omega)]
  simp [ptxt]
theorem iptext (x : List S40) (hz : Small x) (k : Nat) (hk : x.length + 4000000 ≤ k) : impl_ProgramText.f k x = some (tx (if pok x = true then ptxt x else [])) := by
 unfold impl_ProgramText.f
 rw [iprog x hz k (by omega)]
 simp only [Option.bind_some]
 by_cases c : pok x = true
 ·have hp := pok_all c
  rw [if_pos c, if_pos c, outer_tells k (by omega) x [] (fun s hs => ⟨(hp.2.2 s hs).1, (hp.2.2 s hs).2.1⟩) (by simp; omega)]
  rfl
 ·rw [if_neg c, if_neg c]; rfl
def encT (l : List UInt8) : List Int := l.map fun b => (b.toNat : Int)
theorem encT_len (l : List UInt8) : (encT l).length = l.length := by simp [encT]
theorem encT_app (a b : List UInt8) : encT a ++ encT b = encT (a ++ b) := by simp [encT]
theorem bytes_tx (l : List UInt8) : bytesOf (tx l) = encT l := rfl
theorem str_enc (l : List UInt8) : strOfNums (encT l) = tx l := by
 have h : (encT l).map (fun n => UInt8.ofNat n.toNat) = l := by
  unfold encT
  rw [List.map_map]
  conv => rhs; rw [← List.map_id l]
  apply List.map_congr_left
  intro b _
  simp
 unfold strOfNums
 rw [h]
 rfl
theorem pt_l1 (x : List S40) (pre : List S40) (a : S40) (suf : List S40) (hx : x = pre ++ a :: suf) (hl : x.length ≤ 6) (hb : a.f0.length ≤ 24) (K : Nat) (hK : 40 ≤ K) (r : ByteArray) (d : List S35) : ∀ (jp : List S35) (acc : List UInt8), a.f0 = jp ++ d → acc.length + 100 * d.length ≤ 10000000 →
  spec_ProgramText.l0 K (encT (acc ++ bodyT d)) ((pre.length : Int) + 1) x = some r →
  spec_ProgramText.l1 (K + d.length + 1) (encT acc) (pre.length : Int) (jp.length : Int) x = some r := by
 have hlen : x.length = pre.length + (suf.length + 1) := by rw [hx]; simp
 have hr : rd_T40 x (pre.length : Int) = a := by rw [hx]; exact rd_app62 pre a suf
 induction d with
 | nil =>
  intro jp acc e ha h
  rw [List.append_nil] at e
  have hj : a.f0.length = jp.length := by rw [e]
  rw [show K + ([] : List S35).length + 1 = K + 1 from rfl]
  simp only [spec_ProgramText.l1]
  rw [if_pos (by omega), if_pos (by omega), hr, if_neg (by omega), w64 (by omega) (by omega)]
  simpa [bodyT] using h
 | cons s d ih =>
  intro jp acc e ha h
  simp only [List.length_cons] at ha
  have hj : a.f0.length = jp.length + (d.length + 1) := by rw [e]; simp
  have hrs : rd_T35 a.f0 (jp.length : Int) = s := by rw [e]; exact rd_app jp s d
  have hs := stx_len s
  have e2 : (if sok s.f0 s.f1 s.f2 s.f3.f0 s.f3.f1 s.f3.f2 = true then canon s.f0 s.f1 s.f2 s.f3.f0 s.f3.f1 s.f3.f2 else []) = stx s := rfl
  have e10 : (⟨#[10]⟩ : ByteArray) = tx [10] := rfl
  have h2 := ih (jp ++ [s]) (acc ++ (stx s ++ [10])) (by rw [e]; simp) (by simp only [List.length_append, List.length_singleton]; omega) (by simpa [bodyT] using h)
  rw [List.length_append, List.length_singleton] at h2
  obtain ⟨m, hm⟩ : ∃ m, K + d.length + 1 = m := ⟨_, rfl⟩
  rw [show K + (s :: d).length + 1 = (K + d.length + 1) + 1 by simp only [List.length_cons]; omega, hm]
  rw [hm] at h2
  simp only [spec_ProgramText.l1]
  rw [if_pos (by omega), if_pos (by omega), hr, if_pos (by omega), if_pos (by omega), hrs, sformat _ _ _ _ _ _ m (by omega)]
  simp only [Option.bind_some]
  rw [e2, e10, tx_app, tx_size, tx_size, bytes_tx, encT_len, encT_app, if_pos (by omega), if_pos (by simp only [List.length_append, List.length_singleton]; omega), w64 (by omega) (by omega), show ((jp.length : Nat) : Int) + 1 = ((jp.length + 1 : Nat) : Int) by omega]
  exact h2
theorem pt_l0 (x : List S40) (hz : Small x) (hp : pok x = true) (suf : List S40) : ∀ (pre : List S40) (acc : List UInt8), x = pre ++ suf → acc.length + 10000 * suf.length ≤ 1000000 →
  spec_ProgramText.l0 (4000000 + 40 * suf.length) (encT acc) (pre.length : Int) x = some (tx (acc ++ ptxt suf)) := by
 have hall := pok_all hp
 induction suf with
 | nil =>
  intro pre acc e ha
  rw [List.append_nil] at e
  rw [show 4000000 + 40 * ([] : List S40).length = (3999998 + 1) + 1 from rfl]
  simp only [spec_ProgramText.l0]
  rw [if_neg (by rw [e]; omega)]
  simp only [spec_ProgramText.j1]
  try rw [if_neg Bool.false_ne_true]
  rw [str_enc]
  simp [ptxt]
 | cons a suf ih =>
  intro pre acc e ha
  simp only [List.length_cons] at ha
  have hlen : x.length = pre.length + (suf.length + 1) := by rw [e]; simp
  have h0 := hall.2.2 a (by rw [e]; simp)
  have hr : rd_T40 x (pre.length : Int) = a := by rw [e]; exact rd_app62 pre a suf
  have ht := tln_len a h0.2.1
  have he := eok_in h0.2.1
  have hb0 := body_len a.f0
  have i2 := ih (pre ++ [a]) ((acc ++ (tln a ++ [10])) ++ bodyT a.f0) (by rw [e]; simp) (by simp only [List.length_append, List.length_singleton]; omega)
  rw [List.length_append, List.length_singleton, show ((pre.length + 1 : Nat) : Int) = (pre.length : Int) + 1 by omega] at i2
  obtain ⟨K, hK⟩ : ∃ K, 4000000 + 40 * suf.length = K := ⟨_, rfl⟩
  rw [hK] at i2
  have h1 := pt_l1 x pre a suf e hall.1 h0.1 K (by omega) _ a.f0 [] (acc ++ (tln a ++ [10])) (by simp) (by simp only [List.length_append, List.length_singleton]; omega) i2
  obtain ⟨m, hm⟩ : ∃ m, K + 38 = m := ⟨_, rfl⟩
  have h2 := at_rounds (fun k => (spec_ProgramText.mono_l k).2.2 _ _ _ _) (show K + a.f0.length + 1 ≤ m by omega) h1
  rw [show 4000000 + 40 * (a :: suf).length = (m + 1) + 1 by simp only [List.length_cons]; omega]
  simp only [spec_ProgramText.l0]
  have h7 : 4000000 ≤ m := by rw [← hm, ← hK]; exact Nat.le_trans (Nat.le_add_right _ _) (Nat.le_add_right _ _)
  have hk0 : x.length + 2097162 ≤ m + 1 := Nat.le_trans (Nat.add_le_add_right hall.1 _) (Nat.le_trans (Nat.le_of_ble_eq_true rfl : 6 + 2097162 ≤ 4000000) (Nat.le_succ_of_le h7))
  have hok := sprog x hz (m + 1) hk0
  rw [if_pos (by omega), hok, hp]
  simp only [Option.bind_some, spec_ProgramText.j1]
  have e4 : (⟨#[116, 97, 115, 107]⟩ : ByteArray) = tx [116, 97, 115, 107] := rfl
  have e10 : (⟨#[10]⟩ : ByteArray) = tx [10] := rfl
  have hi : ∀ n : Int, -8 ≤ n → n ≤ 999 → i64 n := fun n h1 h2 => by unfold i64; omega
  have hf := flat_len [a.f1.f0, a.f1.f1, a.f1.f2] (fun x hx => by simp at hx; unfold i64; omega)
  simp only [List.length_cons, List.length_nil] at hf
  rw [if_pos trivial, if_pos (by omega), if_pos (by omega), hr, l04_tells (hi _ (by omega) (by omega)) (hi _ (by omega) (by omega)) (hi _ (by omega) (by omega)) _ (by omega)]
  simp only [Option.bind_some]
  rw [tx_size, if_pos (by omega), e4, tx_app, tx_size, if_pos (by simp only [List.length_append, List.length_cons, List.length_nil]; omega), e10, tx_app, tx_size, bytes_tx, encT_len, encT_app, if_pos (by simp only [List.length_append, List.length_cons, List.length_nil]; omega)]
  have e5 : [116, 97, 115, 107] ++ [a.f1.f0, a.f1.f1, a.f1.f2].flatMap spn = tln a := rfl
  have e6 : ((([] : List S35).length : Nat) : Int) = 0 := rfl
  rw [e6] at h2
  rw [e5, h2]
  simp [ptxt]
theorem sptext (x : List S40) (hz : Small x) (k : Nat) (hk : x.length + 5000000 ≤ k) : spec_ProgramText.f k x = some (tx (if pok x = true then ptxt x else [])) := by
 unfold spec_ProgramText.f
 by_cases c : pok x = true
 ·have hall := pok_all c
  rw [if_pos c]
  have h := pt_l0 x hz c x [] [] (by simp) (by simp; omega)
  have e1 : encT [] = [] := rfl
  have e2 : ((([] : List S40).length : Nat) : Int) = 0 := rfl
  rw [e1, e2, List.nil_append] at h
  exact at_rounds (fun k => (spec_ProgramText.mono_l k).1 _ _ _) (show 4000000 + 40 * x.length ≤ k by omega) h
 ·rw [if_neg c]
  obtain ⟨k, rfl⟩ : ∃ m, k = m + 2 := ⟨k - 2, by omega⟩
  rw [show k + 2 = (k + 1) + 1 from rfl]
  simp only [spec_ProgramText.l0]
  have hf : pok x = false := by simpa using c
  rw [sprog x hz _ (by omega), hf]
  simp only [Option.bind_some]
  have hj : spec_ProgramText.j1 (k + 1) [] 0 false x = some (tx []) := by
   simp only [spec_ProgramText.j1]
   try rw [if_neg Bool.false_ne_true]
   rfl
  rw [hj]
  simp
theorem pu_app (l : List UInt8) : ∀ (acc u : Nat) (r : List UInt8), Lib.parseUint10 acc l = .ok u → Lib.parseUint10 acc (l ++ r) = Lib.parseUint10 u r := by
 induction l with
 | nil => intro acc u r h; simp only [Lib.parseUint10] at h; injection h with h; subst h; rfl
 | cons c l ih =>
  intro acc u r h
  simp only [Lib.parseUint10] at h
  split at h
  ·rename_i hc
   split at h
   ·cases h
   ·rename_i h1
    split at h
    ·cases h
    ·rename_i h2
     rw [List.cons_append]
     simp only [Lib.parseUint10]
     rw [if_pos hc, if_neg h1, if_neg h2]
     exact ih _ _ _ h
  ·cases h
theorem fig_nat (n : Nat) (h : n < 10) : (UInt8.ofNat (48 + n)).toNat = 48 + n := UInt8.toNat_ofNat_of_lt' (by show 48 + n < 256; omega)
theorem pu_dec (n : Nat) : n < 18446744073709551616 → Lib.parseUint10 0 (Lib.decDigits n) = .ok n := by
 induction n using Nat.strongRecOn with
 | _ n ih =>
  intro h
  by_cases c : n < 10
  ·rw [Lib.decDigits_one c]
   simp only [Lib.parseUint10, fig_nat n c]
   rw [if_pos (by omega), if_neg (by omega), if_neg (by omega)]
   congr 1; omega
  ·rw [Lib.decDigits, dif_neg c, pu_app _ _ _ _ (ih (n / 10) (by omega) (by omega))]
   simp only [Lib.parseUint10, fig_nat (n % 10) (by omega)]
   rw [if_pos (by omega), if_neg (by omega), if_neg (by omega)]
   congr 1; omega
theorem dec_digit (n : Nat) : ∀ c ∈ Lib.decDigits n, 48 ≤ c.toNat ∧ c.toNat ≤ 57 := by
 induction n using Nat.strongRecOn with
 | _ n ih =>
  intro c hc
  by_cases d : n < 10
  ·rw [Lib.decDigits_one d] at hc
   obtain rfl := List.mem_singleton.1 hc
   rw [fig_nat n d]; omega
  ·rw [Lib.decDigits, dif_neg d] at hc
   rcases List.mem_append.1 hc with hc | hc
   ·exact ih (n / 10) (by omega) c hc
   ·obtain rfl := List.mem_singleton.1 hc
    rw [fig_nat (n % 10) (by omega)]; omega
theorem dec_ne (n : Nat) : Lib.decDigits n ≠ [] := by
 intro e
 have h := Lib.decDigits_length n
 rw [e] at h
 have := Lib.nDigits_pos n
 simp at h
 omega
theorem dec_len (n : Nat) (h : n < 10000000000) : (Lib.decDigits n).length ≤ 10 := by
 rw [Lib.decDigits_length]
 have hb : ∀ (k u : Nat), u < 10 ^ (k + 1) → Lib.nDigits u ≤ k + 1 := by
  intro k
  induction k with
  | zero => intro u hu; rw [Lib.nDigits_small (by simpa using hu)]; omega
  | succ k ih =>
   intro u hu
   by_cases c : u < 10
   ·rw [Lib.nDigits_small c]; omega
   ·rw [Lib.nDigits_big c]
    have := ih (u / 10) (by rw [Nat.pow_succ] at hu; omega)
    omega
 exact hb 9 n (by simpa using h)
theorem atoi_dec (n : Nat) (h : n < 9223372036854775808) : Lib.atoiAll (Lib.decDigits n) = .ok (n : Int) := by
 cases e : Lib.decDigits n with
 | nil => exact absurd e (dec_ne n)
 | cons c r =>
  have hc := dec_digit n c (by rw [e]; simp)
  rw [Lib.atoiAll_plain c r (by omega) (by omega), ← e]
  unfold Lib.parseMag
  rw [if_neg (dec_ne n), pu_dec n (by omega)]
  simp only [Lib.signless]
  rw [if_neg (by omega)]
/-- The number that digits spell. -/
def dval (acc : Nat) (l : List UInt8) : Nat := l.foldl (fun a c => 10 * a + (c.toNat - 48)) acc
theorem dval_dec (n : Nat) : dval 0 (Lib.decDigits n) = n := by
 induction n using Nat.strongRecOn with
 | _ n ih =>
  by_cases c : n < 10
  ·rw [Lib.decDigits_one c]
   simp only [dval, List.foldl_cons, List.foldl_nil, fig_nat n c]; omega
  ·have h := ih (n / 10) (by omega)
   unfold dval at h ⊢
   rw [Lib.decDigits, dif_neg c, List.foldl_append, h]
   simp only [List.foldl_cons, List.foldl_nil, fig_nat (n % 10) (by omega)]; omega
/-- What ParseUint gives. -/
def puv (l : List UInt8) : Int × Bool := if dval 0 l ≤ 1000000000 ∧ Lib.decDigits (dval 0 l) = l then ((dval 0 l : Int), true) else (0, false)
theorem puv_of (n : Nat) (h : n ≤ 1000000000) : puv (Lib.decDigits n) = ((n : Int), true) := by
 unfold puv
 rw [dval_dec, if_pos ⟨h, rfl⟩]
theorem itoa_nat (n : Nat) : Lib.itoa (n : Int) = Lib.decDigits n := Lib.itoa_nonneg n
theorem data_back (s : ByteArray) : (⟨s.data.toList.toArray⟩ : ByteArray) = s := by cases s; simp
/-- A list cut at each c. -/
def cutGo (c : UInt8) : List UInt8 → List UInt8 → List (List UInt8)
 | cur, [] => [cur]
 | cur, b :: l => if b = c then cur :: cutGo c [] l else cutGo c (cur ++ [b]) l
theorem cut_free (c : UInt8) : ∀ (p cur : List UInt8), (∀ b ∈ p, b ≠ c) → cutGo c cur p = [cur ++ p]
 | [], cur, _ => by simp [cutGo]
 | b :: p, cur, h => by
  rw [cutGo, if_neg (h b (by simp)), cut_free c p (cur ++ [b]) (fun x hx => h x (by simp [hx]))]
  simp
theorem cut_at (c : UInt8) : ∀ (p cur r : List UInt8), (∀ b ∈ p, b ≠ c) → cutGo c cur (p ++ c :: r) = (cur ++ p) :: cutGo c [] r
 | [], cur, r, _ => by rw [List.nil_append, cutGo, if_pos rfl]; simp
 | b :: p, cur, r, h => by
  rw [List.cons_append, cutGo, if_neg (h b (by simp)), cut_at c p (cur ++ [b]) r (fun x hx => h x (by simp [hx]))]
  simp
theorem split_cut (c : UInt8) (n : Nat) : ∀ l : List UInt8, l.length ≤ n → Lib.split l [c] = cutGo c [] l := by
 induction n with
 | zero =>
  intro l hl
  have : l = [] := List.length_eq_zero_iff.1 (by omega)
  subst this
  unfold Lib.split
  rw [Lib.count_one]
  rfl
 | succ n ih =>
  intro l hl
  rcases Lib.index_spec l [c] with ⟨h, hno⟩ | ⟨i, h, hi, ho, _⟩
  ·have hfree : ∀ b ∈ l, b ≠ c := by
    intro b hb e
    obtain ⟨k, hk, rfl⟩ := List.mem_iff_getElem.1 hb
    rw [Lib.index_one] at h
    exact Lib.indexByte_none h k (by rw [List.getElem?_eq_getElem hk, e])
   unfold Lib.split
   rw [Lib.count_miss h, cut_free c l [] hfree]
   rfl
  ·rw [Lib.index_one] at h
   obtain ⟨h1, h2⟩ := Lib.indexByte_some h
   have hlt : i < l.length := by
    rcases Nat.lt_or_ge i l.length with z | z
    ·exact z
    ·rw [List.getElem?_eq_none z] at h1; cases h1
   have e : l = l.take i ++ c :: l.drop (i + 1) := by
    conv => lhs; rw [← List.take_append_drop i l]
    congr 1
    rw [List.drop_eq_getElem_cons hlt]
    congr 1
    rw [List.getElem?_eq_getElem hlt] at h1
    exact Option.some.inj h1
   have hfree : ∀ b ∈ l.take i, b ≠ c := by
    intro b hb e
    obtain ⟨k, hk, rfl⟩ := List.mem_iff_getElem.1 hb
    have hk2 : k < i := by simp only [List.length_take] at hk; omega
    refine h2 k hk2 ?_
    rw [List.getElem?_eq_getElem (by omega)]
    rw [List.getElem_take] at e
    rw [e]
   have hc := Lib.count_hit (s := l) (sub := [c]) (i := i) (by simp) (by rw [Lib.index_one]; exact h)
   have hd := ih (l.drop (i + 1)) (by rw [List.length_drop]; omega)
   unfold Lib.split at hd ⊢
   simp only [List.length_singleton] at hc
   rw [hc, Nat.add_comm 1, Lib.splitK, Lib.index_one, h]
   have hm : ¬ (((i : Nat) : Int) == -1) = true := fun z => by have := beq_iff_eq.1 z; omega
   rw [if_neg hm]
   simp only [Int.toNat_natCast, List.length_singleton, Nat.add_zero]
   rw [hd]
   conv => rhs; rw [e]
   rw [cut_at c _ [] _ hfree]
   simp
/-- The pieces of a text, as texts. -/
theorem splitB_cut (s : ByteArray) (c : UInt8) : (Lib.splitB ⟨#[c]⟩ 0 (Lib.countB s ⟨#[c]⟩) s).map (·.data.toList) = cutGo c [] s.data.toList := by
 rw [Lib.splitB_data]
 exact split_cut c _ s.data.toList (Nat.le_refl _)
theorem cut_words (c : UInt8) : ∀ (ws : List (List UInt8)) (w : List UInt8), (∀ b ∈ w, b ≠ c) → (∀ x ∈ ws, ∀ b ∈ x, b ≠ c) → cutGo c [] (w ++ ws.flatMap fun x => c :: x) = w :: ws
 | [], w, h, _ => by simpa using cut_free c w [] h
 | x :: ws, w, h, hs => by
  rw [List.flatMap_cons, List.cons_append, cut_at c w [] _ h, cut_words c ws x (hs x (by simp)) (fun y hy => hs y (by simp [hy]))]
  simp
/-- A byte that no line holds. -/
def bad (b : UInt8) : Bool := decide (b.toNat < 32 ∨ 126 < b.toNat)
theorem isSp_ok {b : UInt8} (h : bad b = false) : Lib.isSp b = decide (b.toNat = 32) := by
 have e : ∀ n : Nat, n < 256 → (b == UInt8.ofNat n) = decide (b.toNat = n) := by
  intro n hn
  by_cases c : b.toNat = n
  ·have : b = UInt8.ofNat n := by apply UInt8.toNat_inj.1; rw [UInt8.toNat_ofNat_of_lt' (by exact hn)]; exact c
   rw [decide_eq_true c, this]; exact beq_self_eq_true _
  ·have : b ≠ UInt8.ofNat n := by intro e2; apply c; rw [e2, UInt8.toNat_ofNat_of_lt' (by exact hn)]
   simp [c, this]
 have h' : ¬ (b.toNat < 32 ∨ 126 < b.toNat) := by simpa [bad] using h
 have e9 := e 9 (by omega); have e10 := e 10 (by omega); have e11 := e 11 (by omega); have e12 := e 12 (by omega); have e13 := e 13 (by omega); have e32 := e 32 (by omega)
 unfold Lib.isSp
 rw [show (9 : UInt8) = UInt8.ofNat 9 from rfl, show (10 : UInt8) = UInt8.ofNat 10 from rfl, show (11 : UInt8) = UInt8.ofNat 11 from rfl, show (12 : UInt8) = UInt8.ofNat 12 from rfl, show (13 : UInt8) = UInt8.ofNat 13 from rfl, show (32 : UInt8) = UInt8.ofNat 32 from rfl, e9, e10, e11, e12, e13, e32,
  decide_eq_false (show ¬ b.toNat = 9 by omega), decide_eq_false (show ¬ b.toNat = 10 by omega), decide_eq_false (show ¬ b.toNat = 11 by omega), decide_eq_false (show ¬ b.toNat = 12 by omega), decide_eq_false (show ¬ b.toNat = 13 by omega)]
 rfl
/-- The fields of a line, none where it is no line. -/
def spf (l : List UInt8) : Option (List (List UInt8)) := if 600 < l.length ∨ l.any bad = true then none else if 24 < (Lib.fields l).length then none else some (Lib.fields l)
/-- What both give. -/
def spr (l : List UInt8) : List ByteArray × Bool := match spf l with | some p => (p.map tx, true) | none => ([], false)
theorem fieldsGo_good : ∀ (l cur : List UInt8), (∀ b ∈ l, bad b = false) → (∀ b ∈ cur, bad b = false ∧ Lib.isSp b = false) → ∀ p ∈ Lib.fieldsGo cur l, p ≠ [] ∧ ∀ b ∈ p, bad b = false ∧ Lib.isSp b = false
 | [], cur, _, hc => by
  intro p hp
  cases cur with
  | nil => simp [Lib.fieldsGo] at hp
  | cons c r =>
   simp [Lib.fieldsGo] at hp
   subst hp
   exact ⟨by simp, hc⟩
 | b :: l, cur, hl, hc => by
  intro p hp
  have hb := hl b (by simp)
  have hl2 : ∀ b ∈ l, bad b = false := fun x hx => hl x (by simp [hx])
  cases hs : Lib.isSp b with
  | true =>
   cases cur with
   | nil => rw [Lib.fieldsGo_sp b l hs] at hp; exact fieldsGo_good l [] hl2 (by simp) p hp
   | cons c r =>
    rw [Lib.fieldsGo_end (c :: r) b l hs (by simp)] at hp
    rcases List.mem_cons.1 hp with e | hp
    ·subst e; exact ⟨by simp, hc⟩
    ·exact fieldsGo_good l [] hl2 (by simp) p hp
  | false =>
   rw [Lib.fieldsGo_more cur b l hs] at hp
   refine fieldsGo_good l (cur ++ [b]) hl2 ?_ p hp
   intro x hx
   rcases List.mem_append.1 hx with hx | hx
   ·exact hc x hx
   ·obtain rfl := List.mem_singleton.1 hx; exact ⟨hb, hs⟩
theorem fieldsGo_run : ∀ (p cur : List UInt8) (r : List UInt8), (∀ b ∈ p, Lib.isSp b = false) → Lib.fieldsGo cur (p ++ r) = Lib.fieldsGo (cur ++ p) r
 | [], cur, r, _ => by simp
 | b :: p, cur, r, h => by
  rw [List.cons_append, Lib.fieldsGo_more cur b _ (h b (by simp)), fieldsGo_run p (cur ++ [b]) r (fun x hx => h x (by simp [hx]))]
  simp
theorem sp32 : Lib.isSp 32 = true := by decide
theorem fields_join : ∀ (ps : List (List UInt8)), (∀ p ∈ ps, p ≠ [] ∧ ∀ b ∈ p, Lib.isSp b = false) → Lib.fields (ps.flatMap fun p => p ++ [32]) = ps
 | [], _ => by simp [Lib.fields, Lib.fieldsGo]
 | p :: ps, h => by
  have hp := h p (by simp)
  have ih := fields_join ps (fun q hq => h q (by simp [hq]))
  unfold Lib.fields at ih ⊢
  rw [List.flatMap_cons, List.append_assoc, fieldsGo_run p [] _ hp.2, List.nil_append, List.singleton_append, Lib.fieldsGo_end p 32 _ sp32 hp.1, ih]
def bad_int (n : Int) : Bool := decide (n < 32 ∨ 126 < n)
theorem bad_eq (b : UInt8) : bad b = bad_int (b.toNat : Int) := by
 unfold bad bad_int
 by_cases c : b.toNat < 32 ∨ 126 < b.toNat
 ·rw [decide_eq_true c, decide_eq_true (by omega)]
 ·rw [decide_eq_false c, decide_eq_false (by omega)]
theorem ext_tx (s : ByteArray) (i j : Nat) (h : j ≤ s.size) : s.extract i j = tx ((s.data.toList.drop i).take (j - i)) := by
 apply ByteArray.ext
 apply Array.toList_inj.1
 rw [ByteArray.data_extract]
 simp [tx]
theorem any_bad (l : List UInt8) : (l.map fun b => (b.toNat : Int)).any bad_int = l.any bad := by
 rw [List.any_map]
 congr 1
 funext b
 exact (bad_eq b).symm
/-- The fields so far, the field that is read. -/
def sfin (l : List UInt8) (out : List (List UInt8)) (cur u : List UInt8) : Option (List ByteArray × Bool) :=
 some (if u.any bad = true then ([], false) else if 24 < (out ++ Lib.fieldsGo cur u).length then ([], false) else ((out ++ Lib.fieldsGo cur u).map tx, true))
theorem spf_loop (s : ByteArray) (hs : s.size ≤ 600) (u : List UInt8) : ∀ (k : Nat) (pre : List UInt8) (out : List (List UInt8)) (cur : List UInt8) (b : Nat),
  s.data.toList = pre ++ u → b ≤ pre.length → pre.drop b = cur → out.length ≤ pre.length → 3 * u.length + 10 ≤ k →
  spec_SplitFields.l0 k s (out.map tx) (b : Int) (pre.length : Int) = sfin s.data.toList out cur u := by
 have hz := size_tl s
 induction u with
 | nil =>
  intro k pre out cur b e hb hc ho hk
  obtain ⟨k, rfl⟩ : ∃ m, k = m + 3 := ⟨k - 3, by simp at hk; omega⟩
  rw [List.append_nil] at e
  have hl : s.size = pre.length := by rw [hz, e]
  have hfin : ∀ (j : Nat) (o : List (List UInt8)) (x : Int), 1 ≤ j → spec_SplitFields.l0 j s (o.map tx) x ((pre.length : Int) + 1) = some (if 24 < o.length then ([], false) else (o.map tx, true)) := by
   intro j o x hj
   obtain ⟨j, rfl⟩ : ∃ m, j = m + 1 := ⟨j - 1, by omega⟩
   simp only [spec_SplitFields.l0]
   rw [if_neg (by omega)]
   by_cases c : 24 < o.length
   ·rw [if_pos (by simp; omega), if_pos c]
   ·rw [if_neg (by simp; omega), if_neg c]
  rw [show k + 3 = (k + 2) + 1 from rfl]
  simp only [spec_SplitFields.l0]
  rw [if_pos (by omega), if_neg (by omega)]
  simp only [spec_SplitFields.j1]
  try rw [if_neg Bool.false_ne_true]
  rw [if_neg (by omega)]
  simp only [spec_SplitFields.j2]
  try rw [if_neg Bool.false_ne_true]
  rw [w64 (n := (pre.length : Int) + 1) (by omega) (by omega)]
  unfold sfin
  rw [List.any_nil, if_neg Bool.false_ne_true]
  by_cases c : b < pre.length
  ·have hcur : cur ≠ [] := by rw [← hc]; intro z; have := congrArg List.length z; simp at this; omega
   rw [if_pos (by omega), if_pos (by omega), if_pos (by omega), if_pos (by omega), if_pos (by simp; omega)]
   have hx : s.extract ((b : Int)).toNat ((pre.length : Int)).toNat = tx cur := by
    rw [Int.toNat_natCast, Int.toNat_natCast, ext_tx s b pre.length (by omega), e, hc]
    congr 1
    rw [List.take_of_length_le]
    rw [← hc, List.length_drop]; omega
   have hm : out.map tx ++ [tx cur] = (out ++ [cur]).map tx := by simp
   rw [hx, hm, hfin _ _ _ (by simp at hk; omega)]
   have hg : Lib.fieldsGo cur [] = [cur] := by cases cur with
    | nil => exact absurd rfl hcur
    | cons x y => rfl
   rw [hg]
  ·have hcur : cur = [] := by rw [← hc]; exact List.drop_eq_nil_of_le (by omega)
   rw [if_neg (by omega), hfin _ _ _ (by simp at hk; omega), hcur]
   have hg : Lib.fieldsGo [] [] = [] := rfl
   rw [hg, List.append_nil]
 | cons c u ih =>
  intro k pre out cur b e hb hc ho hk
  simp only [List.length_cons] at hk
  obtain ⟨k, rfl⟩ : ∃ m, k = m + 3 := ⟨k - 3, by omega⟩
  have hl : s.size = pre.length + (u.length + 1) := by rw [hz, e]; simp
  have hbt := bt_tx s pre c u e
  have e' : s.data.toList = (pre ++ [c]) ++ u := by rw [e]; simp
  have hlen : ((pre ++ [c]).length : Int) = (pre.length : Int) + 1 := by simp
  have hbad : ∀ (x : Bool), x = bad c → spec_SplitFields.j1 (k + 2) s (out.map tx) (b : Int) (pre.length : Int) x = sfin s.data.toList out cur (c :: u) := by
   intro x hx
   subst hx
   simp only [spec_SplitFields.j1]
   cases hbc : bad c with
   | true =>
    rw [if_pos rfl]
    unfold sfin
    rw [List.any_cons, hbc, Bool.true_or, if_pos rfl]
   | false =>
    have hsp := isSp_ok hbc
    rw [if_neg (by simp), if_pos (by omega), if_pos (by omega), hbt]
    simp only [spec_SplitFields.j2]
    rw [w64 (n := (pre.length : Int) + 1) (by omega) (by omega)]
    have hany : (c :: u).any bad = u.any bad := by rw [List.any_cons, hbc, Bool.false_or]
    by_cases c32 : c.toNat = 32
    ·have hs1 : Lib.isSp c = true := by rw [hsp]; exact decide_eq_true c32
     rw [if_neg (by simp; omega)]
     by_cases d : b < pre.length
     ·have hcur : cur ≠ [] := by rw [← hc]; intro z; have := congrArg List.length z; simp at this; omega
      rw [if_pos (by omega), if_pos (by omega), if_pos (by omega), if_pos (by omega), if_pos (by simp; omega)]
      have hx : s.extract ((b : Int)).toNat ((pre.length : Int)).toNat = tx cur := by
       rw [Int.toNat_natCast, Int.toNat_natCast, ext_tx s b pre.length (by omega), e]
       congr 1
       rw [List.drop_append_of_le_length hb, hc]
       have h3 : cur.length = pre.length - b := by rw [← hc, List.length_drop]
       rw [← h3, List.take_left']
       rfl
      have hm : out.map tx ++ [tx cur] = (out ++ [cur]).map tx := by simp
      rw [hx, hm]
      have i2 := ih k (pre ++ [c]) (out ++ [cur]) [] (pre.length + 1) e' (by simp) (by simp) (by simp; omega) (by omega)
      rw [hlen, show (((pre.length + 1 : Nat)) : Int) = (pre.length : Int) + 1 by omega] at i2
      rw [i2]
      unfold sfin
      rw [hany, Lib.fieldsGo_end cur c u hs1 hcur, List.append_assoc, List.singleton_append]
     ·have hcur : cur = [] := by rw [← hc]; exact List.drop_eq_nil_of_le (by omega)
      rw [if_neg (by omega)]
      have i2 := ih k (pre ++ [c]) out [] (pre.length + 1) e' (by simp) (by simp) (by simp; omega) (by omega)
      rw [hlen, show (((pre.length + 1 : Nat)) : Int) = (pre.length : Int) + 1 by omega] at i2
      rw [i2]
      unfold sfin
      rw [hany, hcur, Lib.fieldsGo_sp c u hs1]
    ·have hs1 : Lib.isSp c = false := by rw [hsp]; exact decide_eq_false c32
     rw [if_pos (by simp; omega)]
     have i2 := ih k (pre ++ [c]) out (cur ++ [c]) b e' (by simp; omega) (by rw [List.drop_append_of_le_length hb, hc]) (by simp; omega) (by omega)
     rw [hlen] at i2
     rw [i2]
     unfold sfin
     rw [hany, Lib.fieldsGo_more cur c u hs1]
  rw [show k + 3 = (k + 2) + 1 from rfl]
  simp only [spec_SplitFields.l0]
  rw [if_pos (by omega), if_pos (by omega), if_pos (by omega), hbt]
  by_cases d : c.toNat < 32
  ·rw [if_pos (by omega)]
   exact hbad true (by unfold bad; rw [decide_eq_true (Or.inl d)])
  ·rw [if_neg (by omega)]
   refine hbad _ ?_
   unfold bad
   by_cases d2 : 126 < c.toNat
   ·rw [decide_eq_true (show c.toNat < 32 ∨ 126 < c.toNat from Or.inr d2), decide_eq_true (show (c.toNat : Int) > 126 by omega)]
   ·rw [decide_eq_false (show ¬ (c.toNat < 32 ∨ 126 < c.toNat) by omega), decide_eq_false (show ¬ ((c.toNat : Int) > 126) by omega)]
theorem sspl (s : ByteArray) (k : Nat) (hk : 2000 ≤ k) : spec_SplitFields.f k s = some (spr s.data.toList) := by
 have hz := size_tl s
 unfold spec_SplitFields.f spr spf
 simp only [Option.bind_some]
 by_cases c : (s.size : Int) > 600
 ·rw [if_pos c, if_pos (Or.inl (by omega))]
 ·rw [if_neg c]
  have h := spf_loop s (by omega) s.data.toList k [] [] [] 0 (by simp) (by simp) (by simp) (by simp) (by omega)
  have e : ((([] : List UInt8).length : Nat) : Int) = 0 := rfl
  have e2 : ((0 : Nat) : Int) = 0 := rfl
  have e3 : ([] : List (List UInt8)).map tx = [] := rfl
  rw [e, e2, e3] at h
  rw [h]
  unfold sfin
  rw [List.nil_append]
  by_cases d : s.data.toList.any bad = true
  ·rw [if_pos d, if_pos (Or.inr d)]
  ·have hn : ¬ (600 < s.data.toList.length ∨ s.data.toList.any bad = true) := fun z => z.elim (fun y => by omega) d
   rw [if_neg d, if_neg hn]
   have hf : Lib.fieldsGo [] s.data.toList = Lib.fields s.data.toList := rfl
   rw [hf]
   by_cases q : 24 < (Lib.fields s.data.toList).length
   ·rw [if_pos q, if_pos q]
   ·rw [if_neg q, if_neg q]
theorem itoa_no32 (n : Int) : ∀ b ∈ Lib.itoa n, b ≠ 32 := by
 intro b hb
 unfold Lib.itoa at hb
 split at hb
 ·rcases List.mem_cons.1 hb with e | hb
  ·subst e; decide
  ·have := dec_digit _ b hb
   intro e; subst e; simp at this
 ·have := dec_digit _ b hb
  intro e; subst e; simp at this
theorem kw_no32 (c : Int) : ∀ b ∈ kw c, b ≠ 32 := by
 unfold kw
 repeat' split
 all_goals decide
theorem canon_cut (c v n o a b : Int) : cutGo 32 [] (canon c v n o a b) = kw c :: (nums c v n o a b).map Lib.itoa := by
 unfold canon
 have e : (nums c v n o a b).flatMap spn = ((nums c v n o a b).map Lib.itoa).flatMap (fun x => 32 :: x) := by
  rw [List.flatMap_map]; rfl
 rw [e]
 refine cut_words 32 _ _ (kw_no32 c) ?_
 intro x hx b hb
 obtain ⟨n, -, rfl⟩ := List.mem_map.1 hx
 exact itoa_no32 n b hb
theorem cut_len (c : UInt8) : ∀ (l cur : List UInt8), (cutGo c cur l).length = l.count c + 1
 | [], cur => by simp [cutGo]
 | b :: l, cur => by
  unfold cutGo
  by_cases h : b = c
  ·subst h; rw [if_pos rfl, List.length_cons, cut_len b l []]; simp
  ·rw [if_neg h, cut_len c l, List.count_cons_of_ne h]
theorem join_words (ps : List (List UInt8)) (w : List UInt8) : Lib.join (w :: ps) [32] = w ++ ps.flatMap fun x => 32 :: x := by
 rw [Lib.join_cons]
 unfold Lib.joinTail
 rw [List.flatMap_def]
 rfl
/-- A statement that a word and its numbers spell. -/
def mkS (c z0 z1 z2 z3 : Int) : Int × Int × Int × Int × Int × Int :=
 if c = 1 then (1, z0, 0, z1, z2, z3) else if c = 2 then (2, z0, z1, 0, 0, 0) else if c = 3 then (3, 0, 0, z0, z1, z2) else if c = 4 then (4, 0, 0, z0, z1, z2) else if c = 5 then (5, 0, z0, 0, 0, 0) else (c, 0, 0, 0, 0, 0)
/-- It is valid, and its text is T. -/
def good (T : List UInt8) (x : Int × Int × Int × Int × Int × Int) : Bool := sok x.1 x.2.1 x.2.2.1 x.2.2.2.1 x.2.2.2.2.1 x.2.2.2.2.2 && decide (canon x.1 x.2.1 x.2.2.1 x.2.2.2.1 x.2.2.2.2.1 x.2.2.2.2.2 = T)
theorem itoa_small (n : Int) (h0 : -8 ≤ n) (h1 : n ≤ 999) : Lib.atoiAll (Lib.itoa n) = .ok n := by
 by_cases h : 0 ≤ n
 ·obtain ⟨m, rfl⟩ : ∃ m : Nat, n = m := ⟨n.toNat, by omega⟩
  rw [itoa_nat]
  exact atoi_dec m (by omega)
 ·have hm : n.natAbs < 10 := by omega
  unfold Lib.itoa
  rw [if_pos (by omega), Lib.atoiAll_minus, Lib.decDigits_one hm]
  rcases (show n = -1 ∨ n = -2 ∨ n = -3 ∨ n = -4 ∨ n = -5 ∨ n = -6 ∨ n = -7 ∨ n = -8 by omega) with rfl | rfl | rfl | rfl | rfl | rfl | rfl | rfl <;> rfl
theorem sok_mk {c v n o a b : Int} (h : sok c v n o a b = true) : 1 ≤ c ∧ c ≤ 6 := by have := sok_kind h; omega
theorem kw_inj {c d : Int} (hc : 1 ≤ c ∧ c ≤ 6) (hd : 1 ≤ d ∧ d ≤ 6) (h : kw c = kw d) : c = d := by
 rcases (show c = 1 ∨ c = 2 ∨ c = 3 ∨ c = 4 ∨ c = 5 ∨ c = 6 by omega) with rfl | rfl | rfl | rfl | rfl | rfl <;>
 rcases (show d = 1 ∨ d = 2 ∨ d = 3 ∨ d = 4 ∨ d = 5 ∨ d = 6 by omega) with rfl | rfl | rfl | rfl | rfl | rfl <;>
 first | rfl | (exact absurd h (by decide))
theorem mkS_kind (c z0 z1 z2 z3 : Int) : (mkS c z0 z1 z2 z3).1 = c := by
 unfold mkS
 split; · simp_all
 split; · simp_all
 split; · simp_all
 split; · simp_all
 split; · simp_all
 rfl
/-- The pieces of a text that a statement has. -/
theorem good_cut {T : List UInt8} {x : Int × Int × Int × Int × Int × Int} (h : good T x = true) : (1 ≤ x.1 ∧ x.1 ≤ 6) ∧ cutGo 32 [] T = kw x.1 :: (nums x.1 x.2.1 x.2.2.1 x.2.2.2.1 x.2.2.2.2.1 x.2.2.2.2.2).map Lib.itoa ∧ ∀ n ∈ nums x.1 x.2.1 x.2.2.1 x.2.2.2.1 x.2.2.2.2.1 x.2.2.2.2.2, -8 ≤ n ∧ n ≤ 999 := by
 unfold good at h
 rw [Bool.and_eq_true, decide_eq_true_eq] at h
 refine ⟨sok_mk h.1, ?_, nums_small h.1⟩
 rw [← h.2]
 exact canon_cut _ _ _ _ _ _
theorem good_kind {T : List UInt8} {x y : Int × Int × Int × Int × Int × Int} (h : good T x = true) (k : good T y = true) : x.1 = y.1 := by
 have h1 := good_cut h
 have h2 := good_cut k
 have e := h1.2.1.symm.trans h2.2.1
 exact kw_inj h1.1 h2.1 (List.cons.inj e).1
/-- What a parse gives of a statement. -/
def ans (x : Int × Int × Int × Int × Int × Int) : Int × Int × Int × Int × Int × Int × Bool := (x.1, x.2.1, x.2.2.1, x.2.2.2.1, x.2.2.2.2.1, x.2.2.2.2.2, true)
theorem l04_any (s : ByteArray) (sg : Int) (u : List UInt8) : ∀ (k : Nat) (pre : List UInt8) (acc : Int), s.data.toList = pre ++ u → s.size ≤ 4 → u.length < k → ∃ y, spec_l04Number.l0 k s sg acc (pre.length : Int) = some y := by
 have hz := size_tl s
 induction u with
 | nil =>
  intro k pre acc e hs hk
  obtain ⟨k, rfl⟩ : ∃ m, k = m + 1 := ⟨k - 1, by omega⟩
  rw [List.append_nil] at e
  have hl : s.size = pre.length := by rw [hz, e]
  simp only [spec_l04Number.l0]
  rw [if_neg (by omega)]
  exact ⟨_, rfl⟩
 | cons c u ih =>
  intro k pre acc e hs hk
  simp only [List.length_cons] at hk
  obtain ⟨k, rfl⟩ : ∃ m, k = m + 1 := ⟨k - 1, by omega⟩
  have hl : s.size = pre.length + (u.length + 1) := by rw [hz, e]; simp
  have e' : s.data.toList = (pre ++ [c]) ++ u := by rw [e]; simp
  have hlen : ((pre ++ [c]).length : Int) = (pre.length : Int) + 1 := by simp
  simp only [spec_l04Number.l0]
  rw [if_pos (by omega), if_pos (by omega), in_eq]
  simp only [Option.bind_some]
  rw [w64 (n := (pre.length : Int) + 1) (by omega) (by omega), ← hlen]
  by_cases d : decide (48 ≤ wrap64 (bt s (pre.length : Int)) ∧ wrap64 (bt s (pre.length : Int)) ≤ 57) = true
  ·rw [if_pos d]; exact ih k (pre ++ [c]) _ e' hs (by omega)
  ·rw [if_neg d]; exact ⟨_, rfl⟩
theorem l04_digits (s : ByteArray) (sg : Int) (hsg : sg = 1 ∨ sg = -1) (u : List UInt8) : ∀ (k : Nat) (pre : List UInt8) (acc : Nat), s.data.toList = pre ++ u → s.size ≤ 4 → (∀ c ∈ u, 48 ≤ c.toNat ∧ c.toNat ≤ 57) → acc < 10 ^ pre.length → u.length < k → spec_l04Number.l0 k s sg (acc : Int) (pre.length : Int) = some (sg * ((dval acc u : Nat) : Int)) := by
 have hz := size_tl s
 induction u with
 | nil =>
  intro k pre acc e hs hd ha hk
  obtain ⟨k, rfl⟩ : ∃ m, k = m + 1 := ⟨k - 1, by omega⟩
  rw [List.append_nil] at e
  have hl : s.size = pre.length := by rw [hz, e]
  have h4 : 10 ^ pre.length ≤ 10 ^ 4 := Nat.pow_le_pow_right (by omega) (by omega)
  simp only [spec_l04Number.l0]
  rw [if_neg (by omega)]
  have ed : dval acc [] = acc := rfl
  rw [ed]
  rcases hsg with rfl | rfl
  ·rw [w64 (by omega) (by omega)]
  ·rw [w64 (by omega) (by omega)]
 | cons c u ih =>
  intro k pre acc e hs hd ha hk
  simp only [List.length_cons] at hk
  obtain ⟨k, rfl⟩ : ∃ m, k = m + 1 := ⟨k - 1, by omega⟩
  have hl : s.size = pre.length + (u.length + 1) := by rw [hz, e]; simp
  have e' : s.data.toList = (pre ++ [c]) ++ u := by rw [e]; simp
  have hlen : ((pre ++ [c]).length : Int) = (pre.length : Int) + 1 := by simp
  have h4 : 10 ^ pre.length ≤ 10 ^ 4 := Nat.pow_le_pow_right (by omega) (by omega)
  have hc := hd c (by simp)
  have hbt := bt_tx s pre c u e
  have hp : 10 ^ (pre ++ [c]).length = 10 ^ pre.length * 10 := by rw [List.length_append, List.length_singleton, Nat.pow_succ]
  have i2 := ih k (pre ++ [c]) (10 * acc + (c.toNat - 48)) e' hs (fun x hx => hd x (by simp [hx])) (by rw [hp]; omega) (by omega)
  simp only [spec_l04Number.l0]
  rw [if_pos (by omega), if_pos (by omega), hbt, w64 (n := (c.toNat : Int)) (by omega) (by omega), in_eq]
  simp only [Option.bind_some]
  rw [if_pos (decide_eq_true (by omega)), w64 (n := (pre.length : Int) + 1) (by omega) (by omega), ← hlen, w64 (n := 10 * (acc : Int)) (by omega) (by omega), w64 (n := 10 * (acc : Int) + (c.toNat : Int)) (by omega) (by omega), w64 (n := 10 * (acc : Int) + (c.toNat : Int) - 48) (by omega) (by omega), show 10 * (acc : Int) + (c.toNat : Int) - 48 = ((10 * acc + (c.toNat - 48) : Nat) : Int) by omega, i2]
  rfl
theorem l04_some (s : ByteArray) (k : Nat) (hk : 20 ≤ k) : ∃ y, spec_l04Number.f k s = some y := by
 have hj : ∀ (x : ByteArray) (sg : Int), ∃ y, spec_l04Number.j1 (k - 1) x sg 0 = some y := by
  intro x sg
  obtain ⟨k, rfl⟩ : ∃ m, k = m + 3 := ⟨k - 3, by omega⟩
  rw [show k + 3 - 1 = (k + 1) + 1 from rfl]
  simp only [spec_l04Number.j1, spec_l04Number.j2]
  by_cases h : (x.size : Int) = 0
  ·rw [if_pos h]; exact ⟨_, rfl⟩
  ·rw [if_neg h]
   by_cases h2 : (x.size : Int) > 4
   ·rw [if_pos (decide_eq_true h2)]; exact ⟨_, rfl⟩
   ·rw [if_neg (by simpa using h2)]
    exact l04_any x sg x.data.toList k [] 0 (by simp) (by omega) (by rw [← size_tl]; omega)
 unfold spec_l04Number.f
 obtain ⟨k, rfl⟩ : ∃ m, k = m + 1 := ⟨k - 1, by omega⟩
 rw [show k + 1 - 1 = k from rfl] at hj
 simp only [spec_l04Number.j0]
 by_cases h : (s.size : Int) > 0
 ·rw [if_pos h, if_pos (by omega)]
  by_cases h2 : (bt s 0 == 45) = true
  ·rw [if_pos h2, if_pos (by omega)]; exact hj _ _
  ·rw [if_neg h2]; exact hj _ _
 ·rw [if_neg h, if_neg Bool.false_ne_true]; exact hj _ _
theorem l04_itoa (n : Int) (h0 : -8 ≤ n) (h1 : n ≤ 999) (k : Nat) (hk : 20 ≤ k) : spec_l04Number.f k (tx (Lib.itoa n)) = some n := by
 have hj : ∀ (m : Nat) (sg : Int), (sg = 1 ∨ sg = -1) → m < 1000 → spec_l04Number.j1 (k - 1) (tx (Lib.decDigits m)) sg 0 = some (sg * (m : Int)) := by
  intro m sg hsg hm
  obtain ⟨k, rfl⟩ : ∃ q, k = q + 3 := ⟨k - 3, by omega⟩
  have hl : (Lib.decDigits m).length ≤ 3 := by
   rw [Lib.decDigits_length]; exact nd_le 2 m (by show m < 10 ^ 3; omega)
  have hne : (Lib.decDigits m).length ≠ 0 := fun e => dec_ne m (List.length_eq_zero_iff.1 e)
  rw [show k + 3 - 1 = (k + 1) + 1 from rfl]
  simp only [spec_l04Number.j1, spec_l04Number.j2]
  rw [if_neg (by rw [tx_size]; omega), if_neg (by rw [tx_size]; simp; omega)]
  have h := l04_digits (tx (Lib.decDigits m)) sg hsg (Lib.decDigits m) k [] 0 rfl (by rw [tx_size]; omega) (dec_digit m) (by simp) (by omega)
  rw [dval_dec] at h
  exact h
 unfold spec_l04Number.f
 obtain ⟨k, rfl⟩ : ∃ m, k = m + 1 := ⟨k - 1, by omega⟩
 rw [show k + 1 - 1 = k from rfl] at hj
 simp only [spec_l04Number.j0]
 by_cases hn : 0 ≤ n
 ·obtain ⟨m, rfl⟩ : ∃ m : Nat, n = m := ⟨n.toNat, by omega⟩
  rw [itoa_nat]
  have h := hj m 1 (Or.inl rfl) (by omega)
  cases e : Lib.decDigits m with
  | nil => exact absurd e (dec_ne m)
  | cons c r =>
   have hc := dec_digit m c (by rw [e]; simp)
   have hb := bt_tx (tx (c :: r)) [] c r rfl
   have hb0 : bt (tx (c :: r)) 0 = (c.toNat : Int) := hb
   rw [e] at h
   have hnb : ((c.toNat : Int) == 45) = false := beq_eq_false_iff_ne.mpr (by omega)
   rw [if_pos (by rw [tx_size]; simp), if_pos (by rw [tx_size]; simp), hb0, hnb, if_neg Bool.false_ne_true, h]
   congr 1; omega
 ·have h := hj n.natAbs (-1) (Or.inr rfl) (by omega)
  have e : Lib.itoa n = 45 :: Lib.decDigits n.natAbs := by unfold Lib.itoa; rw [if_pos (by omega)]
  rw [e]
  have hb0 : bt (tx (45 :: Lib.decDigits n.natAbs)) 0 = 45 := bt_tx (tx (45 :: Lib.decDigits n.natAbs)) [] 45 _ rfl
  have hx : (tx (45 :: Lib.decDigits n.natAbs)).extract 1 (tx (45 :: Lib.decDigits n.natAbs)).size = tx (Lib.decDigits n.natAbs) := by
   rw [ext_tx _ _ _ (Nat.le_refl _), tx_list, tx_size]
   congr 1
   rw [List.take_of_length_le]
   ·rfl
   ·simp
  rw [if_pos (by rw [tx_size]; simp), if_pos (by rw [tx_size]; simp), hb0, if_pos (by simp), if_pos (by rw [tx_size]; simp; omega), hx, h]
  congr 1; omega
/-- The number that the reference reads in a word. -/
def ln (w : ByteArray) : Int := (spec_l04Number.f 20 w).getD 0
theorem ln_eq (w : ByteArray) (k : Nat) (hk : 20 ≤ k) : spec_l04Number.f k w = some (ln w) := by
 obtain ⟨y, hy⟩ := l04_some w 20 (Nat.le_refl _)
 have h : ∀ j, spec_l04Number.f (20 + j) w = some y := by
  intro j
  induction j with
  | zero => exact hy
  | succ j ih => exact spec_l04Number.mono w (20 + j) y ih
 have e : ln w = y := by unfold ln; rw [hy]; rfl
 rw [e, show k = 20 + (k - 20) by omega]
 exact h _
theorem ln_itoa (n : Int) (h0 : -8 ≤ n) (h1 : n ≤ 999) : ln (tx (Lib.itoa n)) = n := by
 have h := ln_eq (tx (Lib.itoa n)) 20 (Nat.le_refl _)
 rw [l04_itoa n h0 h1 20 (Nat.le_refl _)] at h
 exact (Option.some.inj h).symm
theorem rdOf_at (pre : List ByteArray) (w : ByteArray) (u : List ByteArray) : rdOf ByteArray.empty (pre ++ w :: u) (pre.length : Int) = w := by
 unfold Go.Proofs.YtcpmkcidehhbiaaGreatDoorW.PrintWords.rdOf
 simp [List.getD]
theorem l0_tells (ps : List ByteArray) (hl : ps.length ≤ 5) (hz : ∀ w ∈ ps, w.size ≤ 600) (u : List ByteArray) : ∀ (m : Nat) (pre : List ByteArray) (x : List UInt8) (ys : List Int), 20 ≤ m → ps = pre ++ u → x.length ≤ 700 * pre.length → ys.length ≤ pre.length →
  spec_ParseStmt.l0 (m + u.length + 1) ps (tx x) ys (pre.length : Int) = spec_ParseStmt.l1 m (tx (x ++ u.flatMap fun w => 32 :: w.data.toList)) (ys ++ u.map ln ++ [0, 0, 0, 0]) 1 := by
 induction u with
 | nil =>
  intro m pre x ys hm e hx hy
  rw [List.append_nil] at e
  simp only [spec_ParseStmt.l0, List.length_nil, Nat.add_zero]
  rw [if_neg (by rw [e]; omega)]
  simp only [Option.bind_some]
  rw [if_pos (by rw [← e] at hy; simp; omega)]
  simp
 | cons w u ih =>
  intro m pre x ys hm e hx hy
  have hlen : ps.length = pre.length + (u.length + 1) := by rw [e]; simp
  have hw := hz w (by rw [e]; simp)
  have hs := size_tl w
  have i2 := ih m (pre ++ [w]) (x ++ 32 :: w.data.toList) (ys ++ [ln w]) hm (by rw [e]; simp) (by rw [List.length_append, List.length_append, List.length_cons, List.length_singleton]; omega) (by simp; omega)
  rw [List.length_append, List.length_singleton] at i2
  have hc : (tx x ++ (⟨#[32]⟩ : ByteArray)) ++ w = tx (x ++ 32 :: w.data.toList) := by
   have e1 : (⟨#[32]⟩ : ByteArray) = tx [32] := rfl
   conv => lhs; rw [e1, tx_app, ← tx_back w, tx_app]
   simp
  have hcs : (tx x ++ (⟨#[32]⟩ : ByteArray)).size = x.length + 1 := by
   have e1 : (⟨#[32]⟩ : ByteArray) = tx [32] := rfl
   rw [e1, tx_app, tx_size]; simp
  rw [show m + (w :: u).length + 1 = (m + u.length + 1) + 1 by simp; omega]
  have hq0 : 20 ≤ m + u.length + 1 := by omega
  generalize m + u.length + 1 = q at i2 hq0 ⊢
  simp only [spec_ParseStmt.l0]
  have hr : rdOf ByteArray.empty ps (pre.length : Int) = w := by rw [e]; exact rdOf_at pre w u
  rw [if_pos (by omega), if_pos (by rw [tx_size]; omega), if_pos (by omega), hr, if_pos (by rw [hcs]; omega), ln_eq w _ (by omega)]
  simp only [Option.bind_some]
  rw [if_pos (by omega), hc, w64 (n := (pre.length : Int) + 1) (by omega) (by omega), show (pre.length : Int) + 1 = ((pre.length + 1 : Nat) : Int) by omega, i2]
  simp
theorem j4_tells (s : ByteArray) (zs : List Int) (d c v n o a b : Int) (hd : 1 ≤ d ∧ d ≤ 6) (m : Nat) (hm : 100 ≤ m) :
  spec_ParseStmt.j4 (m + 1) s zs d c v n o a b = if good s.data.toList (c, v, n, o, a, b) = true then some (ans (c, v, n, o, a, b)) else spec_ParseStmt.l1 m s zs (d + 1) := by
 simp only [spec_ParseStmt.j4]
 rw [sstmt c v n o a b m (by omega), sformat c v n o a b m (by omega), w64 (by omega) (by omega)]
 simp only [Option.bind_some]
 unfold good
 by_cases h : sok c v n o a b = true
 ·simp only [h, if_true, Bool.true_and, tl_eq, tx_list, decide_eq_true_eq, ans]
 ·simp [h]
theorem l1_round (s : ByteArray) (z0 z1 z2 z3 : Int) (r : List Int) (c : Int) (hc : 1 ≤ c ∧ c ≤ 6) (m : Nat) (hm : 100 ≤ m) :
  spec_ParseStmt.l1 (m + 3) s (z0 :: z1 :: z2 :: z3 :: r) c = if good s.data.toList (mkS c z0 z1 z2 z3) = true then some (ans (mkS c z0 z1 z2 z3)) else spec_ParseStmt.l1 m s (z0 :: z1 :: z2 :: z3 :: r) (c + 1) := by
 have e0 : rd (z0 :: z1 :: z2 :: z3 :: r) 0 = z0 := rfl
 have e1 : rd (z0 :: z1 :: z2 :: z3 :: r) 1 = z1 := rfl
 have e2 : rd (z0 :: z1 :: z2 :: z3 :: r) 2 = z2 := rfl
 have e3 : rd (z0 :: z1 :: z2 :: z3 :: r) 3 = z3 := rfl
 have hl : ((z0 :: z1 :: z2 :: z3 :: r).length : Int) = (r.length : Int) + 4 := by simp; omega
 rw [show m + 3 = (m + 2) + 1 from rfl]
 simp only [spec_ParseStmt.l1]
 rw [if_pos hc.2, if_pos (by omega), if_pos (by omega), if_pos (by omega), if_pos (by omega), e0, e1, e2, e3]
 have hj := j4_tells s (z0 :: z1 :: z2 :: z3 :: r) c
 rcases (show c = 1 ∨ c = 2 ∨ c = 3 ∨ c = 4 ∨ c = 5 ∨ c = 6 by omega) with rfl | rfl | rfl | rfl | rfl | rfl <;>
  simp [spec_l04Plain.f, spec_ParseStmt.j3, mkS, e0, e1, e2, hj _ _ _ _ _ _ (by omega) m hm] <;> (try first | rw [if_pos (by omega), if_pos (by omega), if_pos (by omega)] | rw [if_pos (by omega)] | (intro hh; omega))
/-- What the reference's parse gives of a text and numbers. -/
def sres (T : List UInt8) (z0 z1 z2 z3 : Int) : Int × Int × Int × Int × Int × Int × Bool :=
 if good T (mkS 1 z0 z1 z2 z3) = true then ans (mkS 1 z0 z1 z2 z3) else if good T (mkS 2 z0 z1 z2 z3) = true then ans (mkS 2 z0 z1 z2 z3) else if good T (mkS 3 z0 z1 z2 z3) = true then ans (mkS 3 z0 z1 z2 z3) else if good T (mkS 4 z0 z1 z2 z3) = true then ans (mkS 4 z0 z1 z2 z3) else if good T (mkS 5 z0 z1 z2 z3) = true then ans (mkS 5 z0 z1 z2 z3) else if good T (mkS 6 z0 z1 z2 z3) = true then ans (mkS 6 z0 z1 z2 z3) else (0, 0, 0, 0, 0, 0, false)
theorem l1_tells (s : ByteArray) (z0 z1 z2 z3 : Int) (r : List Int) (m : Nat) (hm : 100 ≤ m) : spec_ParseStmt.l1 (m + 19) s (z0 :: z1 :: z2 :: z3 :: r) 1 = some (sres s.data.toList z0 z1 z2 z3) := by
 have h := fun c hc q hq => l1_round s z0 z1 z2 z3 r c hc q hq
 rw [show m + 19 = m + 16 + 3 from rfl, h 1 (by omega) (m + 16) (by omega), show m + 16 = m + 13 + 3 from rfl, show (1 : Int) + 1 = 2 from rfl, h 2 (by omega) (m + 13) (by omega), show m + 13 = m + 10 + 3 from rfl, show (2 : Int) + 1 = 3 from rfl, h 3 (by omega) (m + 10) (by omega), show m + 10 = m + 7 + 3 from rfl, show (3 : Int) + 1 = 4 from rfl, h 4 (by omega) (m + 7) (by omega), show m + 7 = m + 4 + 3 from rfl, show (4 : Int) + 1 = 5 from rfl, h 5 (by omega) (m + 4) (by omega), show m + 4 = m + 1 + 3 from rfl, show (5 : Int) + 1 = 6 from rfl, h 6 (by omega) (m + 1) (by omega), show (6 : Int) + 1 = 7 from rfl]
 have h7 : spec_ParseStmt.l1 (m + 1) s (z0 :: z1 :: z2 :: z3 :: r) 7 = some (0, 0, 0, 0, 0, 0, false) := by
  simp only [spec_ParseStmt.l1]
  rw [if_neg (by omega)]
 rw [h7]
 unfold sres
 repeat' split
 all_goals rfl
theorem sres_good {T : List UInt8} {c z0 z1 z2 z3 : Int} (h : good T (mkS c z0 z1 z2 z3) = true) : sres T z0 z1 z2 z3 = ans (mkS c z0 z1 z2 z3) := by
 have hk : ∀ d, good T (mkS d z0 z1 z2 z3) = true → d = c := fun d hd => by
  have := good_kind hd h
  rwa [mkS_kind, mkS_kind] at this
 have hc := (good_cut h).1
 rw [mkS_kind] at hc
 unfold sres
 rcases (show c = 1 ∨ c = 2 ∨ c = 3 ∨ c = 4 ∨ c = 5 ∨ c = 6 by omega) with rfl | rfl | rfl | rfl | rfl | rfl
 ·rw [if_pos h]
 ·rw [if_neg (fun z => absurd (hk _ z) (by omega)), if_pos h]
 ·rw [if_neg (fun z => absurd (hk _ z) (by omega)), if_neg (fun z => absurd (hk _ z) (by omega)), if_pos h]
 ·rw [if_neg (fun z => absurd (hk _ z) (by omega)), if_neg (fun z => absurd (hk _ z) (by omega)), if_neg (fun z => absurd (hk _ z) (by omega)), if_pos h]
 ·rw [if_neg (fun z => absurd (hk _ z) (by omega)), if_neg (fun z => absurd (hk _ z) (by omega)), if_neg (fun z => absurd (hk _ z) (by omega)), if_neg (fun z => absurd (hk _ z) (by omega)), if_pos h]
 ·rw [if_neg (fun z => absurd (hk _ z) (by omega)), if_neg (fun z => absurd (hk _ z) (by omega)), if_neg (fun z => absurd (hk _ z) (by omega)), if_neg (fun z => absurd (hk _ z) (by omega)), if_neg (fun z => absurd (hk _ z) (by omega)), if_pos h]
theorem sres_none {T : List UInt8} {z0 z1 z2 z3 : Int} (h : ∀ c, good T (mkS c z0 z1 z2 z3) = false) : sres T z0 z1 z2 z3 = (0, 0, 0, 0, 0, 0, false) := by
 unfold sres
 simp [h]
/-- The number behind the j-th word. -/
def zat (s : ByteArray) (j : Nat) : Int := impl_parseStmt.atv ((impl_parseStmt.wsOf s).getD j ByteArray.empty)
theorem fill_mk (ws : List ByteArray) (K : Int) : impl_parseStmt.fill ws (impl_parseStmt.offs1 K ++ impl_parseStmt.offs2 K ++ impl_parseStmt.offs3 K) 0 [K, 0, 0, 0, 0, 0] = [(mkS K (impl_parseStmt.atv (ws.getD 1 ByteArray.empty)) (impl_parseStmt.atv (ws.getD 2 ByteArray.empty)) (impl_parseStmt.atv (ws.getD 3 ByteArray.empty)) (impl_parseStmt.atv (ws.getD 4 ByteArray.empty))).1, (mkS K (impl_parseStmt.atv (ws.getD 1 ByteArray.empty)) (impl_parseStmt.atv (ws.getD 2 ByteArray.empty)) (impl_parseStmt.atv (ws.getD 3 ByteArray.empty)) (impl_parseStmt.atv (ws.getD 4 ByteArray.empty))).2.1, (mkS K (impl_parseStmt.atv (ws.getD 1 ByteArray.empty)) (impl_parseStmt.atv (ws.getD 2 ByteArray.empty)) (impl_parseStmt.atv (ws.getD 3 ByteArray.empty)) (impl_parseStmt.atv (ws.getD 4 ByteArray.empty))).2.2.1, (mkS K (impl_parseStmt.atv (ws.getD 1 ByteArray.empty)) (impl_parseStmt.atv (ws.getD 2 ByteArray.empty)) (impl_parseStmt.atv (ws.getD 3 ByteArray.empty)) (impl_parseStmt.atv (ws.getD 4 ByteArray.empty))).2.2.2.1, (mkS K (impl_parseStmt.atv (ws.getD 1 ByteArray.empty)) (impl_parseStmt.atv (ws.getD 2 ByteArray.empty)) (impl_parseStmt.atv (ws.getD 3 ByteArray.empty)) (impl_parseStmt.atv (ws.getD 4 ByteArray.empty))).2.2.2.2.1, (mkS K (impl_parseStmt.atv (ws.getD 1 ByteArray.empty)) (impl_parseStmt.atv (ws.getD 2 ByteArray.empty)) (impl_parseStmt.atv (ws.getD 3 ByteArray.empty)) (impl_parseStmt.atv (ws.getD 4 ByteArray.empty))).2.2.2.2.2] := by
 by_cases h1 : K = 1; · subst h1; rfl
 by_cases h2 : K = 2; · subst h2; rfl
 by_cases h3 : K = 3; · subst h3; rfl
 by_cases h4 : K = 4; · subst h4; rfl
 by_cases h5 : K = 5; · subst h5; rfl
 unfold impl_parseStmt.offs1 impl_parseStmt.offs2 impl_parseStmt.offs3 mkS
 simp [h1, h2, h3, h4, h5, impl_parseStmt.fill]
theorem canon_ne (c v n o a b : Int) : canon c v n o a b ≠ [] := by
 have hk : kw c ≠ [] := by
  unfold kw
  repeat' split
  all_goals decide
 unfold canon
 intro e
 exact hk (List.append_eq_nil_iff.1 e).1
theorem iparse (s : ByteArray) (hs : s.size < 4294967281) (k : Nat) (hk : 20 ≤ k) :
  impl_parseStmt.f k s = some (if Lib.countB s ⟨#[32]⟩ = (impl_parseStmt.offs1 (impl_parseStmt.kindOf s) ++ impl_parseStmt.offs2 (impl_parseStmt.kindOf s) ++ impl_parseStmt.offs3 (impl_parseStmt.kindOf s)).length ∧ good s.data.toList (mkS (impl_parseStmt.kindOf s) (zat s 1) (zat s 2) (zat s 3) (zat s 4)) = true then ans (mkS (impl_parseStmt.kindOf s) (zat s 1) (zat s 2) (zat s 3) (zat s 4)) else (0, 0, 0, 0, 0, 0, false)) := by
 unfold impl_parseStmt.f
 rw [if_pos hs]
 by_cases h : Lib.countB s ⟨#[32]⟩ = (impl_parseStmt.offs1 (impl_parseStmt.kindOf s) ++ impl_parseStmt.offs2 (impl_parseStmt.kindOf s) ++ impl_parseStmt.offs3 (impl_parseStmt.kindOf s)).length
 ·rw [if_pos h, fill_mk]
  have ez : ∀ j, impl_parseStmt.atv ((impl_parseStmt.wsOf s).getD j ByteArray.empty) = zat s j := fun _ => rfl
  rw [ez, ez, ez, ez]
  generalize mkS (impl_parseStmt.kindOf s) (zat s 1) (zat s 2) (zat s 3) (zat s 4) = x
  obtain ⟨c, v, n, o, a, b⟩ := x
  show (impl_FormatStmt.f k c v n o a b).bind _ = _
  rw [iformat c v n o a b k hk]
  simp only [Option.bind_some, h, true_and]
  unfold good
  have hn : ∀ l : List UInt8, (tx l).toList = l := fun l => by rw [ByteArray.toList_eq]; rfl
  by_cases g : sok c v n o a b = true
  ·simp only [g, if_true, Bool.true_and, decide_eq_true_eq, hn, canon_ne, if_false, ByteArray.toList_eq, ans]
   split <;> rfl
  ·simp [g, hn]
 ·rw [if_neg h, if_neg (fun z => h z.1)]
theorem ws_cut (s : ByteArray) : (impl_parseStmt.wsOf s).map (·.data.toList) = cutGo 32 [] s.data.toList := splitB_cut s 32
theorem ws_tx {s : ByteArray} {l : List (List UInt8)} (h : cutGo 32 [] s.data.toList = l) : impl_parseStmt.wsOf s = l.map tx := by
 rw [← h, ← ws_cut, List.map_map]
 conv => lhs; rw [← List.map_id (impl_parseStmt.wsOf s)]
 apply List.map_congr_left
 intro x _
 exact (tx_back x).symm
theorem countB_cut (s : ByteArray) : Lib.countB s ⟨#[32]⟩ + 1 = (cutGo 32 [] s.data.toList).length := by
 rw [cut_len]
 congr 1
 exact Lib.count_one 32 s.data.toList
theorem atv_itoa (n : Int) (h0 : -8 ≤ n) (h1 : n ≤ 999) : impl_parseStmt.atv (tx (Lib.itoa n)) = n := by
 unfold impl_parseStmt.atv
 rw [tx_list, itoa_small n h0 h1]
theorem kind_kw (s : ByteArray) (c : Int) (hc : 1 ≤ c ∧ c ≤ 6) (r : List (List UInt8)) (h : cutGo 32 [] s.data.toList = kw c :: r) : impl_parseStmt.kindOf s = c := by
 unfold impl_parseStmt.kindOf
 rw [ws_tx h]
 rcases (show c = 1 ∨ c = 2 ∨ c = 3 ∨ c = 4 ∨ c = 5 ∨ c = 6 by omega) with rfl | rfl | rfl | rfl | rfl | rfl <;> rfl
/-- A statement's text is parsed by the program. -/
theorem ipar_good (s : ByteArray) (hs : s.size < 4294967281) (c z0 z1 z2 z3 : Int) (h : good s.data.toList (mkS c z0 z1 z2 z3) = true) (k : Nat) (hk : 20 ≤ k) : impl_parseStmt.f k s = some (ans (mkS c z0 z1 z2 z3)) := by
 have hg := good_cut h
 have hK : impl_parseStmt.kindOf s = c := by
  have := kind_kw s _ hg.1 _ hg.2.1
  rwa [mkS_kind] at this
 have hw := ws_tx hg.2.1
 have hcnt := countB_cut s
 rw [hg.2.1, List.length_cons, List.length_map] at hcnt
 have hc := hg.1
 rw [mkS_kind] at hc
 have ha := fun n hn => atv_itoa n (hg.2.2 n hn).1 (hg.2.2 n hn).2
 have hz : Lib.countB s ⟨#[32]⟩ = (impl_parseStmt.offs1 c ++ impl_parseStmt.offs2 c ++ impl_parseStmt.offs3 c).length ∧ mkS c (zat s 1) (zat s 2) (zat s 3) (zat s 4) = mkS c z0 z1 z2 z3 := by
  unfold zat
  rw [hw]
  rcases (show c = 1 ∨ c = 2 ∨ c = 3 ∨ c = 4 ∨ c = 5 ∨ c = 6 by omega) with rfl | rfl | rfl | rfl | rfl | rfl <;>
   simp [mkS, nums] at hcnt ha ⊢ <;> simp [impl_parseStmt.offs1, impl_parseStmt.offs2, impl_parseStmt.offs3, List.getD, hcnt, ha]
 rw [iparse s hs k hk, hK, hz.2, if_pos ⟨hz.1, h⟩]
theorem ipar_none (s : ByteArray) (hs : s.size < 4294967281) (h : ∀ c z0 z1 z2 z3, good s.data.toList (mkS c z0 z1 z2 z3) = false) (k : Nat) (hk : 20 ≤ k) : impl_parseStmt.f k s = some (0, 0, 0, 0, 0, 0, false) := by
 rw [iparse s hs k hk, if_neg (fun z => by rw [h] at z; exact Bool.false_ne_true z.2)]
theorem fieldsGo_len : ∀ (l cur : List UInt8), ∀ p ∈ Lib.fieldsGo cur l, p.length ≤ cur.length + l.length
 | [], cur => by
  intro p hp
  cases cur with
  | nil => simp [Lib.fieldsGo] at hp
  | cons c r => simp [Lib.fieldsGo] at hp; subst hp; simp
 | b :: l, cur => by
  intro p hp
  cases hs : Lib.isSp b with
  | true =>
   cases cur with
   | nil => rw [Lib.fieldsGo_sp b l hs] at hp; have := fieldsGo_len l [] p hp; simp at this ⊢; omega
   | cons c r =>
    rw [Lib.fieldsGo_end (c :: r) b l hs (by simp)] at hp
    rcases List.mem_cons.1 hp with e | hp
    ·subst e; simp
    ·have := fieldsGo_len l [] p hp; simp at this ⊢; omega
  | false =>
   rw [Lib.fieldsGo_more cur b l hs] at hp
   have := fieldsGo_len l (cur ++ [b]) p hp
   simp at this ⊢; omega
theorem spf_some {l : List UInt8} {ps : List (List UInt8)} (h : spf l = some ps) : ps.length ≤ 24 ∧ ∀ p ∈ ps, p.length ≤ 600 ∧ ∀ b ∈ p, b ≠ 32 := by
 unfold spf at h
 by_cases c : 600 < l.length ∨ l.any bad = true
 ·rw [if_pos c] at h; cases h
 ·rw [if_neg c] at h
  by_cases d : 24 < (Lib.fields l).length
  ·rw [if_pos d] at h; cases h
  ·rw [if_neg d] at h
   obtain rfl := Option.some.inj h
   have hb : ∀ b ∈ l, bad b = false := by
    intro b hb
    cases e : bad b with
    | false => rfl
    | true => exact absurd (Or.inr (List.any_eq_true.2 ⟨b, hb, e⟩)) c
   refine ⟨by omega, fun p hp => ⟨?_, fun b hbp => ?_⟩⟩
   ·have := fieldsGo_len l [] p hp
    have hc : ¬ 600 < l.length := fun z => c (Or.inl z)
    simp at this; omega
   ·have := (fieldsGo_good l [] hb (by simp) p hp).2 b hbp
    intro e; subst e
    rw [sp32] at this; exact Bool.noConfusion this.2
theorem words_len : ∀ (r : List (List UInt8)), (∀ p ∈ r, p.length ≤ 600) → (r.flatMap fun x => 32 :: x).length ≤ 601 * r.length
 | [], _ => by simp
 | p :: r, h => by
  have h1 := h p (by simp)
  have h2 := words_len r (fun q hq => h q (by simp [hq]))
  rw [List.flatMap_cons, List.length_append, List.length_cons, List.length_cons]; omega
/-- A valid statement is what its word and its numbers spell. -/
theorem sok_mkS {c v n o a b : Int} (h : sok c v n o a b = true) : ∃ z0 z1 z2 z3, (c, v, n, o, a, b) = mkS c z0 z1 z2 z3 := by
 rcases sok_kind h with rfl | rfl | rfl | rfl | rfl | rfl
 ·refine ⟨v, o, a, b, ?_⟩; simp [sok] at h; simp [mkS, h]
 ·refine ⟨v, n, 0, 0, ?_⟩; simp [sok, zok] at h; simp [mkS, h]
 ·refine ⟨o, a, b, 0, ?_⟩; simp [sok] at h; simp [mkS, h]
 ·refine ⟨o, a, b, 0, ?_⟩; simp [sok] at h; simp [mkS, h]
 ·refine ⟨n, 0, 0, 0, ?_⟩; simp [sok, zok] at h; simp [mkS, h]
 ·refine ⟨0, 0, 0, 0, ?_⟩; simp [sok, zok] at h; simp [mkS, h]
theorem fields_words : ∀ (r : List (List UInt8)) (w : List UInt8), (w ≠ [] ∧ ∀ b ∈ w, Lib.isSp b = false) → (∀ x ∈ r, x ≠ [] ∧ ∀ b ∈ x, Lib.isSp b = false) → Lib.fields (w ++ r.flatMap fun x => 32 :: x) = w :: r
 | [], w, hw, _ => by
  have h := fieldsGo_run w [] [] hw.2
  unfold Lib.fields
  rw [List.flatMap_nil, h, List.nil_append]
  cases w with
  | nil => exact absurd rfl hw.1
  | cons c r => rfl
 | x :: r, w, hw, hr => by
  have ih := fields_words r x (hr x (by simp)) (fun y hy => hr y (by simp [hy]))
  unfold Lib.fields at ih ⊢
  rw [List.flatMap_cons, List.cons_append, fieldsGo_run w [] _ hw.2, List.nil_append, Lib.fieldsGo_end w 32 _ sp32 hw.1, ih]
theorem fig_ok {b : UInt8} (h : (48 ≤ b.toNat ∧ b.toNat ≤ 57) ∨ b.toNat = 45 ∨ (97 ≤ b.toNat ∧ b.toNat ≤ 122)) : bad b = false ∧ Lib.isSp b = false := by
 have hb : bad b = false := by unfold bad; rw [decide_eq_false (by omega)]
 exact ⟨hb, by rw [isSp_ok hb]; exact decide_eq_false (by omega)⟩
theorem itoa_ok (n : Int) : Lib.itoa n ≠ [] ∧ ∀ b ∈ Lib.itoa n, bad b = false ∧ Lib.isSp b = false := by
 unfold Lib.itoa
 split
 ·refine ⟨by simp, fun b hb => ?_⟩
  rcases List.mem_cons.1 hb with e | hb
  ·subst e; exact fig_ok (Or.inr (Or.inl rfl))
  ·exact fig_ok (Or.inl (dec_digit _ b hb))
 ·exact ⟨dec_ne _, fun b hb => fig_ok (Or.inl (dec_digit _ b hb))⟩
theorem kw_ok (c : Int) : kw c ≠ [] ∧ ∀ b ∈ kw c, bad b = false ∧ Lib.isSp b = false := by
 unfold kw
 repeat' split
 all_goals exact ⟨by decide, by decide⟩
theorem canon_words (c v n o a b : Int) : canon c v n o a b = kw c ++ ((nums c v n o a b).map Lib.itoa).flatMap (fun x => 32 :: x) := by
 unfold canon
 rw [List.flatMap_map]; rfl
theorem canon_spf {c v n o a b : Int} (h : sok c v n o a b = true) : spf (canon c v n o a b) = some (kw c :: (nums c v n o a b).map Lib.itoa) := by
 have hf : Lib.fields (canon c v n o a b) = kw c :: (nums c v n o a b).map Lib.itoa := by
  rw [canon_words]
  refine fields_words _ _ ⟨(kw_ok c).1, fun b hb => ((kw_ok c).2 b hb).2⟩ ?_
  intro x hx
  obtain ⟨m, -, rfl⟩ := List.mem_map.1 hx
  exact ⟨(itoa_ok m).1, fun b hb => ((itoa_ok m).2 b hb).2⟩
 have hl := nums_len c v n o a b
 have hk := kw_len c
 have hs : ∀ (r : List Int), (∀ x ∈ r, -8 ≤ x ∧ x ≤ 999) → ((r.map Lib.itoa).flatMap (fun x => 32 :: x)).length ≤ 21 * r.length := by
  intro r
  induction r with
  | nil => intro _; simp
  | cons m r ih =>
   intro hm
   have h1 := hm m (by simp)
   have h2 := itoa_len (n := m) (by omega) (by omega)
   have h3 := ih (fun y hy => hm y (by simp [hy]))
   rw [List.map_cons, List.flatMap_cons, List.length_append, List.length_cons, List.length_cons]; omega
 have hlen : (canon c v n o a b).length ≤ 89 := by
  rw [canon_words, List.length_append]
  have := hs _ (nums_small h)
  omega
 have hbad : (canon c v n o a b).any bad = false := by
  rw [List.any_eq_false]
  intro x hx
  rw [canon_words] at hx
  rcases List.mem_append.1 hx with hx | hx
  ·rw [((kw_ok c).2 x hx).1]; exact Bool.false_ne_true
  ·obtain ⟨y, hy, hx⟩ := List.mem_flatMap.1 hx
   rcases List.mem_cons.1 hx with e | hx
   ·subst e; decide
   ·obtain ⟨m, -, rfl⟩ := List.mem_map.1 hy
    rw [((itoa_ok m).2 x hx).1]; exact Bool.false_ne_true
 unfold spf
 rw [if_neg (by rw [hbad]; simp; omega), hf, if_neg (by simp; omega)]
/-- The text T is the task line of these numbers, and they are a valid expression. -/
def goodT (T : List UInt8) (o a b : Int) : Bool := eok o a b && decide (tln (⟨[], ⟨o, a, b⟩⟩ : S40) = T)
theorem tln_cut (s : S40) : cutGo 32 [] (tln s) = [116, 97, 115, 107] :: [s.f1.f0, s.f1.f1, s.f1.f2].map Lib.itoa := by
 unfold tln
 have e : [s.f1.f0, s.f1.f1, s.f1.f2].flatMap spn = ([s.f1.f0, s.f1.f1, s.f1.f2].map Lib.itoa).flatMap (fun x => 32 :: x) := by
  rw [List.flatMap_map]; rfl
 rw [e]
 refine cut_words 32 _ _ (by decide) ?_
 intro x hx b hb
 obtain ⟨n, -, rfl⟩ := List.mem_map.1 hx
 exact itoa_no32 n b hb
theorem goodT_cut {T : List UInt8} {o a b : Int} (h : goodT T o a b = true) : ((1 ≤ o ∧ o ≤ 7) ∧ (-8 ≤ a ∧ a ≤ 999) ∧ (-8 ≤ b ∧ b ≤ 999)) ∧ cutGo 32 [] T = [[116, 97, 115, 107], Lib.itoa o, Lib.itoa a, Lib.itoa b] := by
 unfold goodT at h
 rw [Bool.and_eq_true, decide_eq_true_eq] at h
 refine ⟨eok_in h.1, ?_⟩
 rw [← h.2]
 exact tln_cut _
/-- The number behind the j-th word of a line. -/
def vat (l : List UInt8) (j : Nat) : Int := impl_parseTaskLine.at (tx l) j
theorem goodT_vat {T : List UInt8} {o a b : Int} (h : goodT T o a b = true) : vat T 1 = o ∧ vat T 2 = a ∧ vat T 3 = b ∧ Lib.countB (tx T) ⟨#[32]⟩ = 3 := by
 obtain ⟨⟨h1, h2, h3⟩, hc⟩ := goodT_cut h
 have hw : impl_parseStmt.wsOf (tx T) = _ := ws_tx (s := tx T) hc
 have hn := countB_cut (tx T)
 rw [tx_list, hc] at hn
 unfold vat impl_parseTaskLine.at
 rw [hw]
 refine ⟨atv_itoa o (by omega) (by omega), atv_itoa a (by omega) (by omega), atv_itoa b (by omega) (by omega), ?_⟩
 simp at hn
 exact hn
/-- The expression of a task line. -/
def headL (l : List UInt8) : Option S31 := if goodT l (vat l 1) (vat l 2) (vat l 3) = true then some ⟨vat l 1, vat l 2, vat l 3⟩ else none
theorem head_good {T : List UInt8} {o a b : Int} (h : goodT T o a b = true) : headL T = some ⟨o, a, b⟩ := by
 obtain ⟨e1, e2, e3, -⟩ := goodT_vat h
 unfold headL
 rw [e1, e2, e3, if_pos h]
theorem head_none {T : List UInt8} (h : ∀ o a b, goodT T o a b = false) : headL T = none := by
 unfold headL
 rw [h, if_neg Bool.false_ne_true]
theorem head_some {T : List UInt8} {e : S31} (h : headL T = some e) : goodT T e.f0 e.f1 e.f2 = true := by
 unfold headL at h
 by_cases c : goodT T (vat T 1) (vat T 2) (vat T 3) = true
 ·rw [if_pos c] at h
  obtain rfl := Option.some.inj h
  exact c
 ·rw [if_neg c] at h; cases h
theorem head_tells (l : List UInt8) (hl : l.length < 4294967281) (k : Nat) (hk : 20 ≤ k) : ∃ o a b, impl_parseTaskLine.f k (tx l) = some (match headL l with | some e => (e.f0, e.f1, e.f2, true) | none => (o, a, b, false)) := by
 have hv : ∀ j, impl_parseTaskLine.at (tx l) j = vat l j := fun _ => rfl
 unfold impl_parseTaskLine.f
 rw [if_pos (by rw [tx_size]; exact hl)]
 simp only [hv]
 have hb : ∀ x y : List UInt8, ((tx x).toList == (tx y).toList) = decide (x = y) := by
  intro x y
  rw [ByteArray.toList_eq, ByteArray.toList_eq, tx_list, tx_list]
  by_cases z : x = y
  ·rw [z]; simp
  ·rw [decide_eq_false z]; exact beq_eq_false_iff_ne.mpr z
 by_cases hc : Lib.countB (tx l) ⟨#[32]⟩ = 3
 ·rw [if_pos hc, iexpr]
  simp only [Option.bind_some]
  refine ⟨vat l 1, vat l 2, vat l 3, ?_⟩
  by_cases he : eok (vat l 1) (vat l 2) (vat l 3) = true
  ·have ht := taskLine_tells (⟨[], ⟨vat l 1, vat l 2, vat l 3⟩⟩ : S40) he k (by omega)
   rw [he, if_pos rfl]
   simp only at ht
   rw [ht]
   simp only [Option.bind_some, hb]
   unfold headL goodT
   rw [he, Bool.true_and]
   by_cases z : tln (⟨[], ⟨vat l 1, vat l 2, vat l 3⟩⟩ : S40) = l
   ·rw [decide_eq_true z, if_pos rfl]
   ·rw [decide_eq_false z, if_neg Bool.false_ne_true]
  ·rw [if_neg he]
   have hn : headL l = none := by
    unfold headL goodT
    rw [Bool.eq_false_iff.mpr he, Bool.false_and, if_neg Bool.false_ne_true]
   rw [hn]
 ·rw [if_neg hc]
  refine ⟨0, 0, 0, ?_⟩
  have hn : headL l = none := head_none (fun o a b => by
   cases e : goodT l o a b with
   | false => rfl
   | true => exact absurd (goodT_vat e).2.2.2 hc)
  rw [hn]
/-- The statement of a line. -/
def stmtL (l : List UInt8) : Option S35 :=
 if good l (mkS (impl_parseStmt.kindOf (tx l)) (zat (tx l) 1) (zat (tx l) 2) (zat (tx l) 3) (zat (tx l) 4)) = true then
  some ⟨(mkS (impl_parseStmt.kindOf (tx l)) (zat (tx l) 1) (zat (tx l) 2) (zat (tx l) 3) (zat (tx l) 4)).1, (mkS (impl_parseStmt.kindOf (tx l)) (zat (tx l) 1) (zat (tx l) 2) (zat (tx l) 3) (zat (tx l) 4)).2.1, (mkS (impl_parseStmt.kindOf (tx l)) (zat (tx l) 1) (zat (tx l) 2) (zat (tx l) 3) (zat (tx l) 4)).2.2.1, ⟨(mkS (impl_parseStmt.kindOf (tx l)) (zat (tx l) 1) (zat (tx l) 2) (zat (tx l) 3) (zat (tx l) 4)).2.2.2.1, (mkS (impl_parseStmt.kindOf (tx l)) (zat (tx l) 1) (zat (tx l) 2) (zat (tx l) 3) (zat (tx l) 4)).2.2.2.2.1, (mkS (impl_parseStmt.kindOf (tx l)) (zat (tx l) 1) (zat (tx l) 2) (zat (tx l) 3) (zat (tx l) 4)).2.2.2.2.2⟩⟩
 else none
/-- What a parse tells of a line. -/
def ansS (o : Option S35) : Int × Int × Int × Int × Int × Int × Bool := match o with
 | some s => (s.f0, s.f1, s.f2, s.f3.f0, s.f3.f1, s.f3.f2, true)
 | none => (0, 0, 0, 0, 0, 0, false)
theorem ansS_inj {o p : Option S35} (h : ansS o = ansS p) : o = p := by
 cases o with
 | none => cases p with
  | none => rfl
  | some s => simp [ansS] at h
 | some s => cases p with
  | none => simp [ansS] at h
  | some t =>
   obtain ⟨a0, a1, a2, b0, b1, b2⟩ := s
   obtain ⟨c0, c1, c2, d0, d1, d2⟩ := t
   simp [ansS] at h
   obtain ⟨rfl, rfl, rfl, rfl, rfl, rfl⟩ := h
   rfl
theorem stmt_tells (l : List UInt8) (hl : l.length < 4294967281) (k : Nat) (hk : 20 ≤ k) : impl_parseStmt.f k (tx l) = some (ansS (stmtL l)) := by
 have hz : (tx l).size < 4294967281 := by rw [tx_size]; exact hl
 unfold stmtL
 by_cases g : good l (mkS (impl_parseStmt.kindOf (tx l)) (zat (tx l) 1) (zat (tx l) 2) (zat (tx l) 3) (zat (tx l) 4)) = true
 ·rw [if_pos g]
  exact ipar_good (tx l) hz _ _ _ _ _ g k hk
 ·rw [if_neg g, iparse (tx l) hz k hk, if_neg (fun z => g z.2)]
  rfl
theorem stmt_good {T : List UInt8} (hl : T.length < 4294967281) {s : S35} (h : good T (s.f0, s.f1, s.f2, s.f3.f0, s.f3.f1, s.f3.f2) = true) : stmtL T = some s := by
 obtain ⟨z0, z1, z2, z3, e⟩ := sok_mkS (show sok s.f0 s.f1 s.f2 s.f3.f0 s.f3.f1 s.f3.f2 = true by unfold good at h; rw [Bool.and_eq_true] at h; exact h.1)
 rw [e] at h
 have h1 := ipar_good (tx T) (by rw [tx_size]; exact hl) _ _ _ _ _ h 20 (Nat.le_refl _)
 rw [stmt_tells T hl 20 (Nat.le_refl _), ← e] at h1
 exact ansS_inj (Option.some.inj h1)
theorem stmt_some {T : List UInt8} {s : S35} (h : stmtL T = some s) : good T (s.f0, s.f1, s.f2, s.f3.f0, s.f3.f1, s.f3.f2) = true := by
 unfold stmtL at h
 by_cases g : good T (mkS (impl_parseStmt.kindOf (tx T)) (zat (tx T) 1) (zat (tx T) 2) (zat (tx T) 3) (zat (tx T) 4)) = true
 ·rw [if_pos g] at h
  obtain rfl := Option.some.inj h
  exact g
 ·rw [if_neg g] at h; cases h
/-- A program's last task takes a statement more. -/
def addS (st : List S40) (s : S35) : List S40 := if st.length = 0 then st else st.set (st.length - 1) ⟨(rd_T40 st ((st.length : Int) - 1)).f0 ++ [s], (rd_T40 st ((st.length : Int) - 1)).f1⟩
/-- What becomes of the tasks behind the last line. -/
def fink (T : List UInt8) (st : List S40) : List S40 × Int := if pok st = true ∧ ptxt st = T then (st, 0) else ([], -2)
/-- A text's lines, one after the other. -/
def run (T : List UInt8) : List (List UInt8) → Int → List S40 → List S40 × Int
 | [], _, st => fink T st
 | l :: ls, i, st => match headL l with
  | some e => run T ls (i + 1) (st ++ [⟨[], e⟩])
  | none => match stmtL l with
   | none => ([], i + 1)
   | some s => run T ls (i + 1) (addS st s)
theorem addS_len (st : List S40) (s : S35) : (addS st s).length = st.length := by
 unfold addS
 split
 ·rfl
 ·rw [List.length_set]
theorem rd_mem62 (st : List S40) (j : Nat) (h : j < st.length) : rd_T40 st (j : Int) ∈ st := by
 unfold rd_T40
 rw [Int.toNat_natCast, List.getD_eq_getElem?_getD, List.getElem?_eq_getElem h]
 exact List.getElem_mem h
theorem addS_body (st : List S40) (s : S35) (n : Nat) (h : ∀ t ∈ st, t.f0.length ≤ n) : ∀ t ∈ addS st s, t.f0.length ≤ n + 1 := by
 unfold addS
 split
 ·intro t ht; have := h t ht; omega
 ·rename_i h0
  intro t ht
  rcases List.mem_or_eq_of_mem_set ht with z | z
  ·have := h t z; omega
  ·rw [z]
   have hm := rd_mem62 st (st.length - 1) (by omega)
   rw [show ((st.length - 1 : Nat) : Int) = (st.length : Int) - 1 by omega] at hm
   have := h _ hm
   simp; omega
theorem ptxt_ne {st : List S40} (h : pok st = true) : ptxt st ≠ [] := by
 have := (pok_all h).2.1
 cases st with
 | nil => simp at this
 | cons s t => simp [ptxt, tln]
theorem rdOf_tx (pre : List (List UInt8)) (l : List UInt8) (u : List (List UInt8)) : rdOf ByteArray.empty ((pre ++ l :: u).map tx) (pre.length : Int) = tx l := by
 unfold Go.Proofs.YtcpmkcidehhbiaaGreatDoorW.PrintWords.rdOf
 simp [List.getD]
theorem pl0 (s : ByteArray) (ls : List (List UInt8)) (hls : ls.length ≤ 30000) (hz : ∀ l ∈ ls, l.length < 4294967281) : ∀ (u pre : List (List UInt8)) (k : Nat) (st : List S40), ls = pre ++ u → st.length ≤ pre.length → (∀ t ∈ st, t.f0.length ≤ pre.length) → u.length + 5000000 ≤ k →
  impl_ParseProgram.l0 k s (ls.map tx) ((ls.map tx).length : Int) (pre.length : Int) st = some (run s.data.toList u (pre.length : Int) st) := by
 intro u
 induction u with
 | nil =>
  intro pre k st e h1 h2 hk
  obtain ⟨k, rfl⟩ : ∃ m, k = m + 1 := ⟨k - 1, by omega⟩
  have hl : ls.length = pre.length := by rw [e]; simp
  simp only [impl_ParseProgram.l0]
  rw [if_neg (by rw [List.length_map]; omega), iptext st ⟨by omega, fun t ht => by have := h2 t ht; omega⟩ k (by omega)]
  simp only [Option.bind_some, run, fink]
  by_cases c : pok st = true
  ·rw [if_pos c, if_neg (by rw [ByteArray.toList_eq]; exact ptxt_ne c)]
   by_cases d : ptxt st = s.data.toList
   ·rw [if_pos (by rw [tl_eq]; exact d), if_pos ⟨c, d⟩]
   ·rw [if_neg (by rw [tl_eq]; exact d), if_neg (fun z => d z.2)]
  ·rw [if_neg c, if_pos (by rw [ByteArray.toList_eq]; rfl), if_neg (fun z => c z.1)]
 | cons l u ih =>
  intro pre k st e h1 h2 hk
  simp only [List.length_cons] at hk
  obtain ⟨k, rfl⟩ : ∃ m, k = m + 1 := ⟨k - 1, by omega⟩
  have hl : ls.length = pre.length + (u.length + 1) := by rw [e]; simp
  have hln := hz l (by rw [e]; simp)
  obtain ⟨o, a, b, ht⟩ := head_tells l hln k (by omega)
  have hst := stmt_tells l hln k (by omega)
  have hr : rdOf ByteArray.empty (ls.map tx) (pre.length : Int) = tx l := by rw [e]; exact rdOf_tx pre l u
  have i2 := fun st2 => ih (pre ++ [l]) k st2 (by rw [e]; simp)
  simp only [List.length_append, List.length_singleton] at i2
  have hi : wrap64 ((pre.length : Int) + 1) = ((pre.length + 1 : Nat) : Int) := by rw [w64 (by omega) (by omega)]; omega
  have hi2 : ((pre.length + 1 : Nat) : Int) = (pre.length : Int) + 1 := by omega
  simp only [impl_ParseProgram.l0]
  rw [if_pos (by rw [List.length_map]; omega), if_pos (by omega), if_pos (by rw [List.length_map]; omega), hr, ht, hst, hi]
  simp only [Option.bind_some, run]
  cases hh : headL l with
  | some x =>
   simp only [if_true]
   rw [if_pos (by omega), i2 _ (by simp; omega) (by
    intro t ht
    rcases List.mem_append.1 ht with z | z
    ·have := h2 t z; omega
    ·rw [List.mem_singleton.1 z]; simp) (by omega), hi2]
  | none =>
   rw [if_neg Bool.false_ne_true]
   cases hs : stmtL l with
   | none =>
    rw [if_neg (show ¬ (ansS none).2.2.2.2.2.2 = true from Bool.false_ne_true), hi2]
   | some x =>
    rw [if_pos (show (ansS (some x)).2.2.2.2.2.2 = true from rfl)]
    simp only [ansS]
    by_cases c : st.length = 0
    ·rw [w64 (n := (st.length : Int) - 1) (by omega) (by omega), if_neg (by omega), i2 st (by omega) (fun t ht => by have := h2 t ht; omega) (by omega), hi2]
     have : addS st x = st := by unfold addS; rw [if_pos c]
     rw [this]
    ·rw [w64 (n := (st.length : Int) - 1) (by omega) (by omega), if_pos (by omega), if_pos (by omega), if_pos (by omega)]
     have hm := rd_mem62 st (st.length - 1) (by omega)
     rw [show ((st.length - 1 : Nat) : Int) = (st.length : Int) - 1 by omega] at hm
     have hb := h2 _ hm
     rw [if_pos (by omega)]
     have ea : st.set ((st.length : Int) - 1).toNat (⟨(rd_T40 st ((st.length : Int) - 1)).f0 ++ [(⟨x.f0, x.f1, x.f2, (⟨x.f3.f0, x.f3.f1, x.f3.f2⟩ : S31)⟩ : S35)], (⟨(rd_T40 st ((st.length : Int) - 1)).f1.f0, (rd_T40 st ((st.length : Int) - 1)).f1.f1, (rd_T40 st ((st.length : Int) - 1)).f1.f2⟩ : S31)⟩ : S40) = addS st x := by
      unfold addS
      rw [if_neg c, show ((st.length : Int) - 1).toNat = st.length - 1 by omega]
     rw [ea, i2 (addS st x) (by rw [addS_len]; omega) (addS_body st x _ h2) (by omega), hi2]
/-- The lines of a text. -/
def linesL (T : List UInt8) : List (List UInt8) := if (cutGo 10 [] T).getD ((cutGo 10 [] T).length - 1) [] = [] then (cutGo 10 [] T).take ((cutGo 10 [] T).length - 1) else cutGo 10 [] T
theorem pieces_tx (T : List UInt8) : impl_linesOf.pieces (tx T) = (cutGo 10 [] T).map tx := by
 have h := splitB_cut (tx T) 10
 rw [tx_list] at h
 rw [← h, List.map_map]
 conv => lhs; rw [← List.map_id (impl_linesOf.pieces (tx T))]
 apply List.map_congr_left
 intro x _
 exact (tx_back x).symm
theorem lines_tells (T : List UInt8) (hT : T.length < 4294967281) : impl_linesOf.f (tx T) = some ((linesL T).map tx) := by
 have hc : Lib.countB (tx T) ⟨#[10]⟩ + 1 = (cutGo 10 [] T).length := by
  rw [cut_len]
  congr 1
  exact Lib.count_one 10 (tx T).data.toList
 have hn : Lib.countB (tx T) ⟨#[10]⟩ = (cutGo 10 [] T).length - 1 := by omega
 unfold impl_linesOf.f linesL
 rw [if_pos (by rw [tx_size]; exact hT), pieces_tx, hn]
 have hg : (((cutGo 10 [] T).map tx).getD ((cutGo 10 [] T).length - 1) ByteArray.empty).toList = (cutGo 10 [] T).getD ((cutGo 10 [] T).length - 1) [] := by
  rw [ByteArray.toList_eq, List.getD_eq_getElem?_getD, List.getD_eq_getElem?_getD, List.getElem?_map, List.getElem?_eq_getElem (by omega)]
  rfl
 rw [hg]
 split
 ·rw [List.map_take]
 ·rfl
theorem cutGo_sum (c : UInt8) : ∀ (l cur : List UInt8), ∀ x ∈ cutGo c cur l, x.length ≤ cur.length + l.length
 | [], cur => by simp [cutGo]
 | b :: l, cur => by
  intro x hx
  unfold cutGo at hx
  by_cases h : b = c
  ·rw [if_pos h] at hx
   rcases List.mem_cons.1 hx with z | z
   ·rw [z]; omega
   ·have := cutGo_sum c l [] x z; simp at this ⊢; omega
  ·rw [if_neg h] at hx
   have := cutGo_sum c l _ x hx; simp at this ⊢; omega
theorem lines_in (T : List UInt8) : (linesL T).length ≤ T.length + 1 ∧ ∀ l ∈ linesL T, l.length ≤ T.length := by
 have h1 : (cutGo 10 [] T).length ≤ T.length + 1 := by rw [cut_len]; have := List.count_le_length (a := (10 : UInt8)) (l := T); omega
 have h2 := cutGo_sum 10 T []
 unfold linesL
 split
 ·refine ⟨by rw [List.length_take]; omega, fun l hl => ?_⟩
  have := h2 l (List.mem_of_mem_take hl); simpa using this
 ·exact ⟨h1, fun l hl => by have := h2 l hl; simpa using this⟩
/-- The program's parse of a text. -/
theorem iparseP (T : List UInt8) (k : Nat) (hk : 6000000 ≤ k) : impl_ParseProgram.f k (tx T) = some (if 20000 < T.length then ([], -1) else run T (linesL T) 0 []) := by
 unfold impl_ParseProgram.f
 rw [tx_size]
 by_cases c : 20000 < T.length
 ·rw [if_pos (by omega), if_pos c]
 ·rw [if_neg (by omega), if_neg c, lines_tells T (by omega)]
  simp only [Option.bind_some]
  have hi := lines_in T
  have h := pl0 (tx T) (linesL T) (by omega) (fun l hl => by have := hi.2 l hl; omega) (linesL T) [] k [] rfl (by simp) (by simp) (by omega)
  exact h
/-- The reference's parse of a line: its words, joined by single spaces, are a statement's text or not. -/
theorem sstL (l : List UInt8) : spec_ParseStmt.f 5000 (tx l) = some (match spf l with | none => (0, 0, 0, 0, 0, 0, false) | some ps => ansS (stmtL (Lib.join ps [32]))) := by
 unfold spec_ParseStmt.f
 rw [sspl (tx l) 5000 (by omega), tx_list]
 simp only [Option.bind_some]
 unfold spr
 cases hp : spf l with
 | none =>
  rw [if_neg Bool.false_ne_true, show (5000 : Nat) = 4999 + 1 from rfl]
  simp [spec_ParseStmt.j0]
 | some ps =>
  obtain ⟨h24, hw⟩ := spf_some hp
  obtain ⟨T, hT⟩ : ∃ T, Lib.join ps [32] = T := ⟨_, rfl⟩
  have hTl : T.length ≤ 20000 := by
   rw [← hT]
   cases ps with
   | nil => rw [Lib.join_nil]; simp
   | cons w r =>
    rw [join_words]
    have h1 := (hw w (by simp)).1
    have h2 := words_len r (fun q hq => (hw q (by simp [hq])).1)
    rw [List.length_cons] at h24
    rw [List.length_append]; omega
  simp only [if_true, List.length_map]
  rw [hT, in_eq]
  simp only [Option.bind_some]
  have hsz : (tx T).size < 4294967281 := by rw [tx_size]; omega
  have hst := stmt_tells T (by omega) 5000 (by omega)
  by_cases hr : 1 ≤ (ps.length : Int) ∧ (ps.length : Int) ≤ 5
  ·rw [decide_eq_true hr]
   cases ps with
   | nil => simp at hr
   | cons w r =>
    rw [List.length_cons] at hr
    have hcut : cutGo 32 [] T = w :: r := by
     rw [← hT, join_words]
     exact cut_words 32 r w (hw w (by simp)).2 (fun x hx => (hw x (by simp [hx])).2)
    have e0 := l0_tells ((w :: r).map tx) (by simp; omega) (by
     intro x hx
     obtain ⟨q, hq, rfl⟩ := List.mem_map.1 hx
     rw [tx_size]; exact (hw q hq).1) (r.map tx) (4998 - r.length) [tx w] w [] (by omega) (by simp) (by have := (hw w (by simp)).1; simp; omega) (by simp)
    have eT : w ++ (r.map tx).flatMap (fun w => 32 :: w.data.toList) = T := by
     rw [← hT, join_words, List.flatMap_map]; rfl
    rw [eT, List.nil_append, List.length_map, List.length_singleton, show 4998 - r.length + r.length + 1 = 4999 by omega] at e0
    obtain ⟨z0, z1, z2, z3, q, hz⟩ : ∃ z0 z1 z2 z3 q, (r.map tx).map ln ++ [0, 0, 0, 0] = z0 :: z1 :: z2 :: z3 :: q := by
     generalize (r.map tx).map ln = y
     rcases y with _ | ⟨y0, _ | ⟨y1, _ | ⟨y2, _ | ⟨y3, y⟩⟩⟩⟩
     ·exact ⟨_, _, _, _, _, rfl⟩
     ·exact ⟨_, _, _, _, _, rfl⟩
     ·exact ⟨_, _, _, _, _, rfl⟩
     ·exact ⟨_, _, _, _, _, rfl⟩
     ·exact ⟨_, _, _, _, _, rfl⟩
    have e1 := l1_tells (tx T) z0 z1 z2 z3 q (4979 - r.length) (by omega)
    rw [show 4979 - r.length + 19 = 4998 - r.length by omega, tx_list] at e1
    have eS : spec_ParseStmt.j0 5000 ((w :: r).map tx) (!true) = some (sres T z0 z1 z2 z3) := by
     have hfx : ∀ q, spec_ParseStmt.j0 (q + 1) ((w :: r).map tx) (!true) = spec_ParseStmt.l0 q ((w :: r).map tx) (tx w) [] 1 := by
      intro q
      simp only [spec_ParseStmt.j0]
      rw [if_neg (by simp), if_pos (by simp)]
      rfl
     rw [hfx 4999]
     refine e0.trans ?_
     rw [hz, e1]
    rw [eS]
    by_cases ex : ∃ c y0 y1 y2 y3, good T (mkS c y0 y1 y2 y3) = true
    ·obtain ⟨c, y0, y1, y2, y3, hg⟩ := ex
     have hi := ipar_good (tx T) hsz c y0 y1 y2 y3 hg 5000 (by omega)
     rw [hst] at hi
     rw [Option.some.inj hi]
     have hq := good_cut hg
     rw [hcut] at hq
     have hrn := (List.cons.inj hq.2.1).2
     have hln : (r.map tx).map ln = nums (mkS c y0 y1 y2 y3).1 (mkS c y0 y1 y2 y3).2.1 (mkS c y0 y1 y2 y3).2.2.1 (mkS c y0 y1 y2 y3).2.2.2.1 (mkS c y0 y1 y2 y3).2.2.2.2.1 (mkS c y0 y1 y2 y3).2.2.2.2.2 := by
      rw [hrn, List.map_map, List.map_map]
      conv => rhs; rw [← List.map_id (nums _ _ _ _ _ _)]
      apply List.map_congr_left
      intro n hn
      exact ln_itoa n (hq.2.2 n hn).1 (hq.2.2 n hn).2
     rw [hln] at hz
     have hc := hq.1
     rw [mkS_kind] at hc
     have hm : mkS c z0 z1 z2 z3 = mkS c y0 y1 y2 y3 := by
      rcases (show c = 1 ∨ c = 2 ∨ c = 3 ∨ c = 4 ∨ c = 5 ∨ c = 6 by omega) with rfl | rfl | rfl | rfl | rfl | rfl <;>
       simp [mkS, nums] at hz ⊢ <;> simp [hz]
     rw [← hm] at hg ⊢
     rw [sres_good hg]
    ·have hno : ∀ c y0 y1 y2 y3, good T (mkS c y0 y1 y2 y3) = false := by
      intro c y0 y1 y2 y3
      cases e : good T (mkS c y0 y1 y2 y3) with
      | false => rfl
      | true => exact absurd ⟨c, y0, y1, y2, y3, e⟩ ex
     have hi := ipar_none (tx T) hsz (by rw [tx_list]; exact hno) 5000 (by omega)
     rw [hst] at hi
     rw [Option.some.inj hi, sres_none (fun c => hno c z0 z1 z2 z3)]
  ·rw [decide_eq_false hr]
   have hi := ipar_none (tx T) hsz (by
    intro c y0 y1 y2 y3
    rw [tx_list]
    cases e : good T (mkS c y0 y1 y2 y3) with
    | false => rfl
    | true =>
     exfalso
     have hg := good_cut e
     cases ps with
     | nil =>
      unfold good at e
      rw [Bool.and_eq_true, decide_eq_true_eq, ← hT, Lib.join_nil] at e
      exact canon_ne _ _ _ _ _ _ e.2
     | cons w r =>
      have hcut : cutGo 32 [] T = w :: r := by
       rw [← hT, join_words]
       exact cut_words 32 r w (hw w (by simp)).2 (fun x hx => (hw x (by simp [hx])).2)
      rw [hcut] at hg
      have hrn := congrArg List.length hg.2.1
      have h4 := nums_len (mkS c y0 y1 y2 y3).1 (mkS c y0 y1 y2 y3).2.1 (mkS c y0 y1 y2 y3).2.2.1 (mkS c y0 y1 y2 y3).2.2.2.1 (mkS c y0 y1 y2 y3).2.2.2.2.1 (mkS c y0 y1 y2 y3).2.2.2.2.2
      simp only [List.length_cons, List.length_map] at hrn
      rw [List.length_cons] at hr
      omega) 5000 (by omega)
   rw [hst] at hi
   rw [Option.some.inj hi, show (5000 : Nat) = 4999 + 1 from rfl]
   simp [spec_ParseStmt.j0]
theorem sstL_any (l : List UInt8) (k : Nat) (hk : 5000 ≤ k) : spec_ParseStmt.f k (tx l) = some (match spf l with | none => (0, 0, 0, 0, 0, 0, false) | some ps => ansS (stmtL (Lib.join ps [32]))) :=
 at_rounds (fun k => spec_ParseStmt.mono _ k) hk (sstL l)
theorem flatw_len (r : List (List UInt8)) (h : ∀ x ∈ r, x.length ≤ 20) : (r.flatMap (fun x => 32 :: x)).length ≤ 21 * r.length := by
 induction r with
 | nil => simp
 | cons m r ih =>
  have h1 := h m (by simp)
  have h2 := ih (fun y hy => h y (by simp [hy]))
  rw [List.flatMap_cons, List.length_append, List.length_cons, List.length_cons]; omega
theorem task_ok : ([116, 97, 115, 107] : List UInt8) ≠ [] ∧ ∀ b ∈ ([116, 97, 115, 107] : List UInt8), bad b = false ∧ Lib.isSp b = false := by decide
theorem goodT_spf {T : List UInt8} {o a b : Int} (h : goodT T o a b = true) : spf T = some [[116, 97, 115, 107], Lib.itoa o, Lib.itoa a, Lib.itoa b] := by
 have hb := (goodT_cut h).1
 unfold goodT at h
 rw [Bool.and_eq_true, decide_eq_true_eq] at h
 have hT : T = [116, 97, 115, 107] ++ ([Lib.itoa o, Lib.itoa a, Lib.itoa b]).flatMap (fun x => 32 :: x) := by
  rw [← h.2]; rfl
 have hw : ∀ x ∈ [Lib.itoa o, Lib.itoa a, Lib.itoa b], x ≠ [] ∧ ∀ b ∈ x, bad b = false ∧ Lib.isSp b = false := by
  intro x hx
  simp only [List.mem_cons, List.not_mem_nil, or_false] at hx
  rcases hx with rfl | rfl | rfl <;> exact itoa_ok _
 have hf : Lib.fields T = [116, 97, 115, 107] :: [Lib.itoa o, Lib.itoa a, Lib.itoa b] := by
  rw [hT]
  exact fields_words _ _ ⟨task_ok.1, fun b hb => (task_ok.2 b hb).2⟩ (fun x hx => ⟨(hw x hx).1, fun b hb => ((hw x hx).2 b hb).2⟩)
 have hlen : T.length ≤ 100 := by
  have h1 := itoa_len (n := o) (by omega) (by omega)
  have h2 := itoa_len (n := a) (by omega) (by omega)
  have h3 := itoa_len (n := b) (by omega) (by omega)
  have := flatw_len [Lib.itoa o, Lib.itoa a, Lib.itoa b] (by
   intro x hx
   simp only [List.mem_cons, List.not_mem_nil, or_false] at hx
   rcases hx with rfl | rfl | rfl <;> omega)
  rw [hT, List.length_append]
  simp only [List.length_cons, List.length_nil] at this ⊢
  omega
 have hbad : T.any bad = false := by
  rw [List.any_eq_false]
  intro x hx
  rw [hT] at hx
  rcases List.mem_append.1 hx with hx | hx
  ·rw [(task_ok.2 x hx).1]; exact Bool.false_ne_true
  ·obtain ⟨y, hy, hx⟩ := List.mem_flatMap.1 hx
   rcases List.mem_cons.1 hx with e | hx
   ·subst e; decide
   ·rw [((hw y hy).2 x hx).1]; exact Bool.false_ne_true
 unfold spf
 rw [if_neg (by rw [hbad]; simp; omega), hf, if_neg (by simp)]
theorem head_spf {T : List UInt8} (h : ∀ o a b, spf T ≠ some [[116, 97, 115, 107], Lib.itoa o, Lib.itoa a, Lib.itoa b]) : headL T = none :=
 head_none (fun o a b => by
  cases e : goodT T o a b with
  | false => rfl
  | true => exact absurd (goodT_spf e) (h o a b))
/-- The reference's reading of a task line. -/
theorem shead (l : List UInt8) (k : Nat) (hk : 3000 ≤ k) : ∃ o a b, spec_l06Head.f k (tx l) = some (match headL l with | some e => (e.f0, e.f1, e.f2, true) | none => (o, a, b, false)) := by
 unfold spec_l06Head.f
 rw [sspl (tx l) k (by omega), tx_list]
 simp only [Option.bind_some]
 have hj : ∀ ps : List ByteArray, spec_l06Head.j0 k (tx l) ps true = some (0, 0, 0, false) := by
  intro ps
  obtain ⟨k, rfl⟩ : ∃ m, k = m + 1 := ⟨k - 1, by omega⟩
  simp only [spec_l06Head.j0, if_true]
 unfold spr
 cases hp : spf l with
 | none =>
  rw [if_neg Bool.false_ne_true, hj, head_spf (fun o a b => by rw [hp]; simp)]
  exact ⟨0, 0, 0, rfl⟩
 | some ps =>
  simp only [if_true, List.length_map]
  by_cases h4 : ps.length = 4
  ·obtain ⟨w0, w1, w2, w3, rfl⟩ : ∃ w0 w1 w2 w3, ps = [w0, w1, w2, w3] := by
    match ps, h4 with
    | [a, b, c, d], _ => exact ⟨a, b, c, d, rfl⟩
   rw [if_pos (by simp), if_pos (by simp)]
   have hr0 : rdOf ByteArray.empty ([w0, w1, w2, w3].map tx) 0 = tx w0 := rfl
   have hr1 : rdOf ByteArray.empty ([w0, w1, w2, w3].map tx) 1 = tx w1 := rfl
   have hr2 : rdOf ByteArray.empty ([w0, w1, w2, w3].map tx) 2 = tx w2 := rfl
   have hr3 : rdOf ByteArray.empty ([w0, w1, w2, w3].map tx) 3 = tx w3 := rfl
   rw [hr0, ByteArray.toList_eq, tx_list]
   by_cases hw : w0 = [116, 97, 115, 107]
   ·have hb : (w0 != ([116, 97, 115, 107] : List UInt8)) = false := by rw [hw]; decide
    rw [hb]
    obtain ⟨k, rfl⟩ : ∃ m, k = m + 1 := ⟨k - 1, by omega⟩
    simp only [spec_l06Head.j0]
    rw [if_neg Bool.false_ne_true, if_pos (by simp), hr1, ln_eq _ k (by omega)]
    simp only [Option.bind_some]
    rw [if_pos (by simp), hr2, ln_eq _ k (by omega)]
    simp only [Option.bind_some]
    rw [if_pos (by simp), hr3, ln_eq _ k (by omega)]
    simp only [Option.bind_some]
    rw [sexpr]
    simp only [Option.bind_some]
    refine ⟨ln (tx w1), ln (tx w2), ln (tx w3), ?_⟩
    have hno : goodT l (ln (tx w1)) (ln (tx w2)) (ln (tx w3)) = false → headL l = none := by
     intro hg
     refine head_none (fun o a b => ?_)
     cases e : goodT l o a b with
     | false => rfl
     | true =>
      exfalso
      have hs := goodT_spf e
      rw [hp] at hs
      have hbd := (goodT_cut e).1
      have hi := Option.some.inj hs
      simp only [List.cons.injEq, and_true] at hi
      obtain ⟨-, h1, h2, h3⟩ := hi
      rw [h1, h2, h3, ln_itoa o (by omega) (by omega), ln_itoa a (by omega) (by omega), ln_itoa b (by omega) (by omega), e] at hg
      cases hg
    by_cases he : eok (ln (tx w1)) (ln (tx w2)) (ln (tx w3)) = true
    ·have hei := eok_in he
     have hi : ∀ n : Int, -8 ≤ n → n ≤ 999 → i64 n := fun n h0 h1 => by unfold i64; omega
     rw [if_pos he, l04_tells (hi _ (by omega) (by omega)) (hi _ (by omega) (by omega)) (hi _ (by omega) (by omega)) k (by omega)]
     simp only [Option.bind_some]
     have hfl := flat_len [ln (tx w1), ln (tx w2), ln (tx w3)] (by
      intro x hx
      simp only [List.mem_cons, List.not_mem_nil, or_false] at hx
      rcases hx with rfl | rfl | rfl <;> exact hi _ (by omega) (by omega))
     simp only [List.length_cons, List.length_nil] at hfl
     rw [tx_size, if_pos (by omega)]
     have ht : (⟨#[116, 97, 115, 107]⟩ : ByteArray) = tx [116, 97, 115, 107] := rfl
     rw [ht, tx_app, ByteArray.toList_eq, ByteArray.toList_eq, tx_list, tx_list]
     have et : [116, 97, 115, 107] ++ [ln (tx w1), ln (tx w2), ln (tx w3)].flatMap spn = tln (⟨[], ⟨ln (tx w1), ln (tx w2), ln (tx w3)⟩⟩ : S40) := rfl
     rw [et]
     by_cases z : tln (⟨[], ⟨ln (tx w1), ln (tx w2), ln (tx w3)⟩⟩ : S40) = l
     ·have hg : goodT l (ln (tx w1)) (ln (tx w2)) (ln (tx w3)) = true := by unfold goodT; rw [he, decide_eq_true z]; rfl
      rw [head_good hg, z]
      simp
     ·have hg : goodT l (ln (tx w1)) (ln (tx w2)) (ln (tx w3)) = false := by unfold goodT; rw [he, decide_eq_false z]; rfl
      rw [hno hg, beq_eq_false_iff_ne.mpr z]
    ·rw [if_neg he, hno (by unfold goodT; rw [Bool.eq_false_iff.mpr he]; rfl)]
   ·have hb : (w0 != ([116, 97, 115, 107] : List UInt8)) = true := bne_iff_ne.mpr hw
    rw [hb, hj, head_spf (fun o a b => by
     rw [hp]
     intro z
     exact hw (List.cons.inj (Option.some.inj z)).1)]
    exact ⟨0, 0, 0, rfl⟩
  ·rw [if_neg (by omega), hj, head_spf (fun o a b => by
    rw [hp]
    intro z
    have := congrArg List.length (Option.some.inj z)
    simp at this
    omega)]
   exact ⟨0, 0, 0, rfl⟩
theorem stmt_back {l : List UInt8} {s : S35} (h : stmtL l = some s) : spf l = some (kw s.f0 :: (nums s.f0 s.f1 s.f2 s.f3.f0 s.f3.f1 s.f3.f2).map Lib.itoa) ∧ Lib.join (kw s.f0 :: (nums s.f0 s.f1 s.f2 s.f3.f0 s.f3.f1 s.f3.f2).map Lib.itoa) [32] = l ∧ sok s.f0 s.f1 s.f2 s.f3.f0 s.f3.f1 s.f3.f2 = true ∧ canon s.f0 s.f1 s.f2 s.f3.f0 s.f3.f1 s.f3.f2 = l := by
 have hg := stmt_some h
 unfold good at hg
 rw [Bool.and_eq_true, decide_eq_true_eq] at hg
 have hs := canon_spf hg.1
 refine ⟨by rw [hg.2] at hs; exact hs, ?_, hg⟩
 rw [join_words, ← canon_words]
 exact hg.2
/-- A list cut at line ends, without a last piece that is empty. -/
def lin (c : List (List UInt8)) : List (List UInt8) := if c.getD (c.length - 1) [] = [] then c.take (c.length - 1) else c
theorem linesL_lin (T : List UInt8) : linesL T = lin (cutGo 10 [] T) := rfl
theorem lin_cons (x y : List UInt8) (c : List (List UInt8)) : lin (x :: y :: c) = x :: lin (y :: c) := by
 unfold lin
 have e : (x :: y :: c).getD ((x :: y :: c).length - 1) [] = (y :: c).getD ((y :: c).length - 1) [] := by
  simp [List.getD]
 rw [e]
 split
 ·simp
 ·rfl
theorem cutGo_some (c : UInt8) : ∀ (l cur : List UInt8), ∃ y r, cutGo c cur l = y :: r
 | [], cur => ⟨cur, [], rfl⟩
 | b :: l, cur => by
  unfold cutGo
  by_cases h : b = c
  ·rw [if_pos h]; exact ⟨_, _, rfl⟩
  ·rw [if_neg h]; exact cutGo_some c l _
theorem sj2_false (k : Nat) (T : ByteArray) (b n i : Int) (st : List S40) (c0 c1 c2 c3 c4 c5 : Int) (hk : 1 ≤ k) : spec_ParseProgram.j2 k T b n i false st c0 c1 c2 c3 c4 c5 = some ([], n) := by
 obtain ⟨k, rfl⟩ : ∃ m, k = m + 1 := ⟨k - 1, by omega⟩
 simp only [spec_ParseProgram.j2]
 rw [if_neg Bool.false_ne_true]
theorem sj2_true (k : Nat) (T : ByteArray) (b n : Int) (i : Nat) (hi : i ≤ 30000) (st : List S40) (s : S35) (hst : st.length ≤ 30000) (hb : ∀ t ∈ st, t.f0.length ≤ 30000) : spec_ParseProgram.j2 (k + 1) T b n (i : Int) true st s.f0 s.f1 s.f2 s.f3.f0 s.f3.f1 s.f3.f2 = spec_ParseProgram.l0 k T b n ((i + 1 : Nat) : Int) (addS st s) := by
 have hi1 : wrap64 ((i : Int) + 1) = ((i + 1 : Nat) : Int) := by rw [w64 (by omega) (by omega)]; omega
 simp only [spec_ParseProgram.j2, if_true]
 by_cases c : st.length = 0
 ·rw [if_neg (by omega), hi1]
  have : addS st s = st := by unfold addS; rw [if_pos c]
  rw [this]
 ·have hm := rd_mem62 st (st.length - 1) (by omega)
  rw [show ((st.length - 1 : Nat) : Int) = (st.length : Int) - 1 by omega] at hm
  have hbb := hb _ hm
  rw [if_pos (by omega), w64 (n := (st.length : Int) - 1) (by omega) (by omega), if_pos (by omega), if_pos (by omega), if_pos (by omega), hi1]
  congr 1
  unfold addS
  rw [if_neg c, show ((st.length : Int) - 1).toNat = st.length - 1 by omega]
/-- One line of the reference's reading. -/
theorem sline (T : ByteArray) (l : List UInt8) (b i n : Nat) (hx : T.extract b i = tx l) (hbi : b ≤ i) (hi : i ≤ T.size) (hsz : T.size ≤ 20000) (hl : l.length ≤ 20000) (hn : n ≤ 20000) (st : List S40) (hst : st.length ≤ n) (hbd : ∀ t ∈ st, t.f0.length ≤ n) (K0 : Nat) (R : List S40 → List S40 × Int)
  (IH : ∀ k, K0 ≤ k → ∀ st' : List S40, st'.length ≤ n + 1 → (∀ t ∈ st', t.f0.length ≤ n + 1) → spec_ParseProgram.l0 k T ((i + 1 : Nat) : Int) ((n + 1 : Nat) : Int) ((i + 1 : Nat) : Int) st' = some (R st')) (k : Nat) (hk : K0 + 6000 ≤ k) :
  spec_ParseProgram.j1 k T (b : Int) (n : Int) (i : Int) false st = some (match headL l with | some e => R (st ++ [⟨[], e⟩]) | none => match stmtL l with | none => ([], ((n + 1 : Nat) : Int)) | some s => R (addS st s)) := by
 obtain ⟨k, rfl⟩ : ∃ m, k = m + 2 := ⟨k - 2, by omega⟩
 have hi1 : wrap64 ((i : Int) + 1) = ((i + 1 : Nat) : Int) := by rw [w64 (by omega) (by omega)]; omega
 have hn1 : wrap64 ((n : Int) + 1) = ((n + 1 : Nat) : Int) := by rw [w64 (by omega) (by omega)]; omega
 obtain ⟨o, a, c, hh⟩ := shead l (k + 1) (by omega)
 have hs := sstL_any l (k + 1) (by omega)
 rw [show k + 2 = (k + 1) + 1 from rfl]
 simp only [spec_ParseProgram.j1]
 rw [if_neg Bool.false_ne_true, if_pos (by omega), if_pos (by omega), if_pos (by omega), Int.toNat_natCast, Int.toNat_natCast, hx, hh, hs, hi1, hn1]
 simp only [Option.bind_some]
 cases he : headL l with
 | some e =>
  simp only [if_true]
  rw [if_pos (by omega)]
  exact IH (k + 1) (by omega) _ (by simp; omega) (by
   intro t ht
   rcases List.mem_append.1 ht with z | z
   ·have := hbd t z; omega
   ·rw [List.mem_singleton.1 z]; simp)
 | none =>
  rw [if_neg Bool.false_ne_true]
  cases hz : stmtL l with
  | some s =>
   obtain ⟨h1, h2, h3, h4⟩ := stmt_back hz
   rw [h1]
   simp only [h2, hz, ansS, if_true]
   rw [sformat s.f0 s.f1 s.f2 s.f3.f0 s.f3.f1 s.f3.f2 (k + 1) (by omega), if_pos h3, h4]
   simp only [Option.bind_some]
   rw [show ((tx l).toList == (tx l).toList) = true from beq_iff_eq.mpr rfl, sj2_true k T _ _ i (by omega) st s (by omega) (fun t ht => by have := hbd t ht; omega)]
   exact IH k (by omega) (addS st s) (by rw [addS_len]; omega) (addS_body st s n hbd)
  | none =>
   have hf : ∀ c0 c1 c2 c3 c4 c5, spec_ParseProgram.j2 (k + 1) T ((i + 1 : Nat) : Int) ((n + 1 : Nat) : Int) (i : Int) false st c0 c1 c2 c3 c4 c5 = some ([], ((n + 1 : Nat) : Int)) := fun c0 c1 c2 c3 c4 c5 => sj2_false (k + 1) T _ _ _ st c0 c1 c2 c3 c4 c5 (by omega)
   cases hp : spf l with
   | none =>
    simp only
    rw [if_neg Bool.false_ne_true]
    exact hf _ _ _ _ _ _
   | some ps =>
    simp only
    cases hq : stmtL (Lib.join ps [32]) with
    | none =>
     rw [if_neg (show ¬ (ansS none).2.2.2.2.2.2 = true from Bool.false_ne_true)]
     exact hf _ _ _ _ _ _
    | some x =>
     obtain ⟨-, -, h3, h4⟩ := stmt_back hq
     rw [if_pos (show (ansS (some x)).2.2.2.2.2.2 = true from rfl)]
     simp only [ansS]
     rw [sformat x.f0 x.f1 x.f2 x.f3.f0 x.f3.f1 x.f3.f2 (k + 1) (by omega), if_pos h3, h4]
     simp only [Option.bind_some]
     have hne : ((tx (Lib.join ps [32])).toList == (tx l).toList) = false := by
      refine beq_eq_false_iff_ne.mpr (fun z => ?_)
      rw [tl_eq, tx_list, tx_list] at z
      rw [z, hz] at hq
      cases hq
     rw [hne]
     exact hf _ _ _ _ _ _
theorem send (T : List UInt8) (b n : Int) (i : Nat) (hi : T.length < i) (st : List S40) (hz : Small st) (k : Nat) (hk : 6500000 ≤ k) : spec_ParseProgram.l0 k (tx T) b n (i : Int) st = some (fink T st) := by
 obtain ⟨k, rfl⟩ : ∃ m, k = m + 1 := ⟨k - 1, by omega⟩
 have h1 := hz.1
 simp only [spec_ParseProgram.l0]
 rw [if_neg (by rw [tx_size]; omega), sptext st hz k (by omega)]
 simp only [Option.bind_some]
 unfold fink
 by_cases c : pok st = true
 ·rw [if_pos c]
  by_cases d : ptxt st = T
  ·rw [if_pos (by rw [tl_eq, tx_list, tx_list]; exact d), if_pos ⟨c, d⟩, sprog st hz k (by omega), c]
   rfl
  ·rw [if_neg (by rw [tl_eq, tx_list, tx_list]; exact d), if_neg (fun z => d z.2)]
 ·have hf : (if pok st = true ∧ ptxt st = T then (st, (0 : Int)) else ([], -2)) = ([], -2) := if_neg (fun z => c z.1)
  rw [if_neg c, hf, sprog st hz k (by omega), Bool.eq_false_iff.mpr c]
  simp only [Option.bind_some]
  split
  ·rw [if_neg Bool.false_ne_true]
  ·rfl
theorem sp_loop (T : List UInt8) (hT : T.length ≤ 20000) : ∀ (rest cur pre : List UInt8) (n k : Nat) (st : List S40), T = pre ++ cur ++ rest → n ≤ pre.length → st.length ≤ n → (∀ t ∈ st, t.f0.length ≤ n) → 7000 * (rest.length + 2) + 7000000 ≤ k →
  spec_ParseProgram.l0 k (tx T) (pre.length : Int) (n : Int) ((pre.length + cur.length : Nat) : Int) st = some (run T (lin (cutGo 10 cur rest)) (n : Int) st) := by
 intro rest
 induction rest with
 | nil =>
  intro cur pre n k st e hn hst hbd hk
  rw [List.append_nil] at e
  have hl : T.length = pre.length + cur.length := by rw [e]; simp
  obtain ⟨k, rfl⟩ : ∃ m, k = m + 1 := ⟨k - 1, by omega⟩
  have hend : ∀ (b m : Int) k', 6500000 ≤ k' → ∀ st' : List S40, st'.length ≤ n + 1 → (∀ t ∈ st', t.f0.length ≤ n + 1) → spec_ParseProgram.l0 k' (tx T) b m ((pre.length + cur.length + 1 : Nat) : Int) st' = some (fink T st') :=
   fun b m k' hk' st' h1 h2 => send T b m (pre.length + cur.length + 1) (by omega) st' ⟨by omega, fun t ht => by have := h2 t ht; omega⟩ k' hk'
  simp only [spec_ParseProgram.l0]
  rw [if_pos (by rw [tx_size]; omega), if_neg (by rw [tx_size]; omega), if_pos (by rw [tx_size]; omega)]
  cases cur with
  | nil =>
   have hb : ((pre.length : Int) == ((pre.length + ([] : List UInt8).length : Nat) : Int)) = true := by simp
   rw [hb]
   obtain ⟨k, rfl⟩ : ∃ m, k = m + 1 := ⟨k - 1, by omega⟩
   simp only [spec_ParseProgram.j1, if_true]
   have hi1 : wrap64 (((pre.length + ([] : List UInt8).length : Nat) : Int) + 1) = ((pre.length + ([] : List UInt8).length + 1 : Nat) : Int) := by rw [w64 (by omega) (by omega)]; omega
   rw [hi1, hend _ _ k (by omega) st (by omega) (fun t ht => by have := hbd t ht; omega)]
   rfl
  | cons x cur =>
   have hb : ((pre.length : Int) == ((pre.length + (x :: cur).length : Nat) : Int)) = false := beq_eq_false_iff_ne.mpr (by simp only [List.length_cons]; omega)
   rw [hb]
   have hx : (tx T).extract pre.length (pre.length + (x :: cur).length) = tx (x :: cur) := by
    rw [ext_tx _ _ _ (by rw [tx_size]; omega), tx_list, e]
    congr 1
    rw [List.drop_left, Nat.add_sub_cancel_left, List.take_of_length_le (Nat.le_refl _)]
   have hh := sline (tx T) (x :: cur) pre.length (pre.length + (x :: cur).length) n hx (by omega) (by rw [tx_size]; omega) (by rw [tx_size]; omega) (by omega) (by omega) st hst hbd 6500000 (fun st' => fink T st') (fun k' hk' st' h1 h2 => hend _ _ k' hk' st' h1 h2) k (by omega)
   rw [hh]
   have el : lin (cutGo 10 (x :: cur) []) = [x :: cur] := rfl
   rw [el]
   simp only [run]
   congr 1
 | cons c rest ih =>
  intro cur pre n k st e hn hst hbd hk
  have hl : T.length = pre.length + cur.length + (rest.length + 1) := by rw [e]; simp; omega
  simp only [List.length_cons] at hk
  obtain ⟨k, rfl⟩ : ∃ m, k = m + 1 := ⟨k - 1, by omega⟩
  have hbt : bt (tx T) ((pre.length + cur.length : Nat) : Int) = (c.toNat : Int) := by
   have := bt_tx (tx T) (pre ++ cur) c rest (by rw [tx_list]; exact e)
   rw [List.length_append] at this
   exact this
  simp only [spec_ParseProgram.l0]
  rw [if_pos (by rw [tx_size]; omega), if_pos (by rw [tx_size]; omega), if_pos (by omega), hbt]
  by_cases h : c = 10
  ·subst h
   have hx : (tx T).extract pre.length (pre.length + cur.length) = tx cur := by
    rw [ext_tx _ _ _ (by rw [tx_size]; omega), tx_list, e, List.append_assoc]
    congr 1
    rw [List.drop_left, Nat.add_sub_cancel_left, List.take_left]
   have hh := sline (tx T) cur pre.length (pre.length + cur.length) n hx (by omega) (by rw [tx_size]; omega) (by rw [tx_size]; omega) (by omega) (by omega) st hst hbd (7000 * (rest.length + 2) + 7000000) (fun st' => run T (lin (cutGo 10 [] rest)) ((n + 1 : Nat) : Int) st') (fun k' hk' st' h1 h2 => by
    have := ih [] (pre ++ cur ++ [10]) (n + 1) k' st' (by rw [e]; simp) (by simp; omega) h1 h2 hk'
    simp only [List.length_append, List.length_cons, List.length_nil] at this
    exact this) k (by omega)
   rw [if_pos (by decide), if_neg (by rw [tx_size]; omega), hh]
   obtain ⟨y, r, ey⟩ := cutGo_some 10 rest []
   have ec : cutGo 10 cur (10 :: rest) = cur :: cutGo 10 [] rest := by rw [cutGo, if_pos rfl]
   rw [ec, ey, lin_cons]
   simp only [run]
   congr 1
  ·have hne : ¬ ((c.toNat : Int) = 10) := by
    intro z
    apply h
    apply UInt8.toNat_inj.1
    have : (10 : UInt8).toNat = 10 := rfl
    omega
   rw [if_neg hne]
   obtain ⟨k, rfl⟩ : ∃ m, k = m + 1 := ⟨k - 1, by omega⟩
   simp only [spec_ParseProgram.j1, if_true]
   have hi1 : wrap64 (((pre.length + cur.length : Nat) : Int) + 1) = ((pre.length + (cur ++ [c]).length : Nat) : Int) := by rw [w64 (by omega) (by omega)]; simp; omega
   rw [hi1, ih (cur ++ [c]) pre n k st (by rw [e]; simp) hn hst hbd (by omega)]
   have ec : cutGo 10 cur (c :: rest) = cutGo 10 (cur ++ [c]) rest := by rw [cutGo, if_neg h]
   rw [ec]
/-- The reference's parse of a text. -/
theorem sparseP (T : List UInt8) (k : Nat) (hk : 200000000 ≤ k) : spec_ParseProgram.f k (tx T) = some (if 20000 < T.length then ([], -1) else run T (linesL T) 0 []) := by
 unfold spec_ParseProgram.f
 rw [tx_size]
 by_cases c : 20000 < T.length
 ·rw [if_pos (by omega), if_pos c]
 ·rw [if_neg (by omega), if_neg c, linesL_lin]
  have h := sp_loop T (by omega) T [] [] 0 k [] rfl (by simp) (by simp) (by simp) (by omega)
  exact h
theorem run_end (T : List UInt8) : ∀ (ls : List (List UInt8)) (i : Int) (st : List S40), (run T ls i st).1 = [] ∨ pok (run T ls i st).1 = true
 | [], i, st => by
  simp only [run, fink]
  split
  ·rename_i h; exact Or.inr h.1
  ·exact Or.inl rfl
 | l :: ls, i, st => by
  simp only [run]
  split
  ·exact run_end T ls _ _
  ·split
   ·exact Or.inl rfl
   ·exact run_end T ls _ _
theorem FnExactParseProgram : laws_FnExactParseProgram.Pure := by
 intro s hs
 obtain ⟨T, hT⟩ : ∃ T, s = tx T := ⟨s.data.toList, (tx_back s).symm⟩
 subst hT
 obtain ⟨R, hR⟩ : ∃ R : List S40 × Int, (if 20000 < T.length then ([], -1) else run T (linesL T) 0 []) = R := ⟨_, rfl⟩
 refine ⟨300000000, R.1, R.2, fun c => ?_⟩
 rw [sparseP T 300000000 (by omega), iparseP T 300000000 (by omega)]
 have hend : R.1 = [] ∨ pok R.1 = true := by
  rw [← hR]
  split
  ·exact Or.inl rfl
  ·exact run_end T _ _ _
 refine ⟨congrArg some hR, congrArg some hR, ?_⟩
 rcases hend with h | h
 ·rw [h]; simp
 ·have := pok_all h
  exact ⟨this.1, fun t ht => (this.2.2 t ht).1⟩

end Go.Proofs.YtcpmkcidehhbiaaGreatDoor.Pure
