/- A drawn statement's text is parsed back to the statement, at every draw; the row's tables of the library hold what the card ties. -/
import Derived.Test.YtcpmkcidehhbiaaDoorPFnStmtTextsx7
import Derived.Laws.Concat
import Derived.Laws.Strings
import Derived.Lib.ItoaMem
import Derived.Lib.SplitLaws
import Derived.Lib.IndexBytes
import Derived.Lib.AtoiAllCases
import Derived.Lib.FieldsLaws
import Derived.Lib.Join
import Derived.Lib.SlicesS
namespace Go.Proofs.YtcpmkcidehhbiaaDoor.Pure
open Go.RowKit Go.Proofs.YtcpmkcidehhbiaaDoor.PFnStmtTexts Go.Proofs.YtcpmkcidehhbiaaDoorW.PrintWords Go.Proofs.YtcpmkcidehhbiaaDoorW.PrintLast
set_option linter.unusedVariables false
set_option linter.unusedSimpArgs false

theorem w64 {n : Int} (h1 : -9223372036854775808 ≤ n) (h2 : n ≤ 9223372036854775807) : wrap64 n = n := by unfold wrap64; omega
theorem w64_in (n : Int) : -9223372036854775808 ≤ wrap64 n ∧ wrap64 n ≤ 9223372036854775807 := by unfold wrap64; omega
theorem wf64 {n : Int} (h : (Lit.int .i64 n).wf = true) : -9223372036854775808 ≤ n ∧ n ≤ 9223372036854775807 := by
  simp only [Lit.wf, IntKind.min, IntKind.max, IntKind.signed, IntKind.bits, Bool.and_eq_true, decide_eq_true_eq, if_true] at h
  omega
theorem wfu8 {n : Int} (h : (Lit.int .u8 n).wf = true) : 0 ≤ n ∧ n ≤ 255 := by
  simp [Lit.wf, IntKind.min, IntKind.max, IntKind.signed, IntKind.bits] at h
  omega
theorem and_in (x : Int) (m : Nat) (hm : m < 9223372036854775808) : 0 ≤ Go.bits .and .i64 x (m : Int) ∧ Go.bits .and .i64 x (m : Int) ≤ m := by
  have h1 : (BitVec.ofInt 64 x &&& BitVec.ofInt 64 (m : Int)).toNat ≤ m := by
    rw [BitVec.toNat_and]
    refine Nat.le_trans Nat.and_le_right ?_
    rw [BitVec.ofInt_natCast, BitVec.toNat_ofNat]
    exact Nat.mod_le _ _
  have h2 : Go.bits .and .i64 x (m : Int) = IntKind.i64.wrap (((BitVec.ofInt 64 x &&& BitVec.ofInt 64 (m : Int)).toNat : Nat) : Int) := rfl
  rw [h2, Go.IntKind.wrap_i64]
  omega
theorem and255 (x : Int) : 0 ≤ Go.bits .and .i64 x 255 ∧ Go.bits .and .i64 x 255 ≤ 255 := and_in x 255 (by decide)
theorem tmod_in (x n : Int) (h0 : 0 ≤ x) (h : 1 ≤ n) : 0 ≤ Int.tmod x n ∧ Int.tmod x n < n := ⟨Int.tmod_nonneg _ h0, Int.tmod_lt_of_pos _ (by omega)⟩
/-- A text out of its bytes. -/
def tx (l : List UInt8) : ByteArray := ⟨l.toArray⟩
theorem tx_size (l : List UInt8) : (tx l).size = l.length := by simp [tx, ByteArray.size]
theorem tx_list (l : List UInt8) : (tx l).data.toList = l := rfl
theorem tx_app (a b : List UInt8) : tx a ++ tx b = tx (a ++ b) := by unfold tx; exact ByteArray.mk_append_mk _ _
theorem tx_back (s : ByteArray) : tx s.data.toList = s := by cases s; simp [tx]
theorem size_tl (s : ByteArray) : s.size = s.data.toList.length := (Array.length_toList).symm
theorem tl_eq (a b : ByteArray) : a.toList = b.toList ↔ a.data.toList = b.data.toList := by rw [ByteArray.toList_eq, ByteArray.toList_eq]
theorem tx_inj (a b : List UInt8) : tx a = tx b ↔ a = b := by
  constructor
  · intro h
    have := congrArg (fun s : ByteArray => s.data.toList) h
    simpa [tx] using this
  · rintro rfl; rfl
theorem bt_tx (s : ByteArray) (pre : List UInt8) (c : UInt8) (u : List UInt8) (h : s.data.toList = pre ++ c :: u) : bt s (pre.length : Int) = (c.toNat : Int) := by
  have hl : s.data.toList.length = pre.length + (u.length + 1) := by rw [h]; simp
  have hz : pre.length < s.size := by have := size_tl s; omega
  unfold bt
  rw [dif_pos (by simpa using hz)]
  have e : s[((pre.length : Nat) : Int).toNat]'(by simpa using hz) = s.data.toList[pre.length]'(by omega) := by simp [ByteArray.getElem_eq_getElem_data]
  rw [e]
  have e2 : s.data.toList[pre.length]'(by omega) = c := by simp only [h]; simp
  rw [e2]
theorem nd_le : ∀ (k u : Nat), u < 10 ^ (k + 1) → Lib.nDigits u ≤ k + 1 := by
  intro k
  induction k with
  | zero => intro u hu; rw [Lib.nDigits_small (by simpa using hu)]; omega
  | succ k ih =>
    intro u hu
    by_cases c : u < 10
    · rw [Lib.nDigits_small c]; omega
    · rw [Lib.nDigits_big c]
      have := ih (u / 10) (by rw [Nat.pow_succ] at hu; omega)
      omega
theorem itoa_len {n : Int} (h0 : -9223372036854775808 ≤ n) (h1 : n ≤ 9223372036854775807) : (Lib.itoa n).length ≤ 20 := by
  have hp : (9223372036854775808 : Nat) < 10 ^ 19 := by decide
  unfold Lib.itoa
  split
  · rw [List.length_cons, Lib.decDigits_length]
    have := nd_le 18 n.natAbs (by show n.natAbs < 10 ^ 19; omega)
    omega
  · rw [Lib.decDigits_length]
    have := nd_le 18 n.toNat (by show n.toNat < 10 ^ 19; omega)
    omega
theorem ifmt (n : Int) (h0 : -9223372036854775808 ≤ n) (h1 : n ≤ 9223372036854775807) : impl_FormatInt.f n = some ⟨(Lib.itoa n).toArray⟩ := by
  unfold impl_FormatInt.f
  rw [if_pos ⟨h0, h1⟩]
theorem within_eq (a b c : Int) : impl_within.f a b c = some (decide (b ≤ a ∧ a ≤ c)) := by
  unfold impl_within.f
  by_cases h : a ≥ b
  · rw [if_pos h]; simp; omega
  · rw [if_neg h]; simp; omega
/-- The place of a cursor lies in its bytes. -/
structure OkC (l : List Int) (i : Int) : Prop where
  lo : 0 ≤ i
  hi : i ≤ l.length
  sz : (l.length : Int) ≤ 140737488351232
theorem byte_tells {l : List Int} {i : Int} (h : Int) (ok : OkC l i) : ∃ x i' h', spec_l01Byte.f l i h = some (x, i', h') ∧ OkC l i' ∧ 0 ≤ x ∧ x ≤ 255 := by
  obtain ⟨lo, hi, sz⟩ := ok
  unfold spec_l01Byte.f
  by_cases h1 : i < (l.length : Int)
  · rw [if_pos h1, if_pos lo]
    refine ⟨_, _, _, rfl, ?_, and255 _⟩
    rw [w64 (by omega) (by omega)]
    exact ⟨by omega, by omega, sz⟩
  · rw [if_neg h1]
    exact ⟨_, _, _, rfl, ⟨lo, hi, sz⟩, and255 _⟩
theorem below_tells {l : List Int} {i : Int} (h n : Int) (ok : OkC l i) (hn : 1 ≤ n) : ∃ x i' h', spec_l01Below.f l i h n = some (x, i', h') ∧ OkC l i' ∧ 0 ≤ x ∧ x < n := by
  unfold spec_l01Below.f
  rw [if_neg (by omega)]
  by_cases h1 : n ≤ 256
  · rw [if_pos h1]
    obtain ⟨x, i1, g1, e1, ok1, x0, x1⟩ := byte_tells h ok
    rw [e1]
    simp only [Option.bind_some]
    rw [if_neg (by omega)]
    exact ⟨_, _, _, rfl, ok1, tmod_in _ _ x0 hn⟩
  · rw [if_neg h1]
    obtain ⟨x, i1, g1, e1, ok1, x0, x1⟩ := byte_tells h ok
    obtain ⟨y, i2, g2, e2, ok2, y0, y1⟩ := byte_tells g1 ok1
    obtain ⟨z, i3, g3, e3, ok3, z0, z1⟩ := byte_tells g2 ok2
    obtain ⟨v, i4, g4, e4, ok4, v0, v1⟩ := byte_tells g3 ok3
    rw [e1]; simp only [Option.bind_some]
    rw [e2]; simp only [Option.bind_some]
    rw [e3]; simp only [Option.bind_some]
    rw [e4]; simp only [Option.bind_some]
    rw [if_neg (by omega)]
    refine ⟨_, _, _, rfl, ok4, tmod_in _ _ ?_ hn⟩
    rw [w64 (n := x * 16777216) (by omega) (by omega), w64 (n := y * 65536) (by omega) (by omega), w64 (n := z * 256) (by omega) (by omega)]
    rw [w64 (n := x * 16777216 + y * 65536) (by omega) (by omega), w64 (n := x * 16777216 + y * 65536 + z * 256) (by omega) (by omega)]
    rw [w64 (by omega) (by omega)]
    omega
theorem once_tells {l : List Int} {i : Int} (h n : Int) (ok : OkC l i) (hn : 1 ≤ n) : ∃ x i' h', spec_l01Once.f l i h n = some (x, i', h') ∧ OkC l i' := by
  obtain ⟨x, i1, g1, e1, ok1, _⟩ := below_tells h n ok hn
  unfold spec_l01Once.f
  rw [e1]
  exact ⟨_, _, _, rfl, ok1⟩
theorem rd_mem (xs : List Int) (i : Int) (h0 : 0 ≤ i) (h1 : i < (xs.length : Int)) : rd xs i ∈ xs := by
  have h : i.toNat < xs.length := by omega
  unfold Go.Proofs.YtcpmkcidehhbiaaDoorW.PrintWords.rd
  rw [List.getD_eq_getElem?_getD, List.getElem?_eq_getElem h]
  exact List.getElem_mem h
theorem pick_tells {l : List Int} {i : Int} (h : Int) (xs : List Int) (ok : OkC l i) (hn : 1 ≤ xs.length) : ∃ x i' h', spec_l01PickInt.f l i h xs = some (x, i', h') ∧ OkC l i' ∧ x ∈ xs := by
  obtain ⟨x, i1, g1, e1, ok1, x0, x1⟩ := below_tells h (xs.length : Int) ok (by omega)
  unfold spec_l01PickInt.f
  rw [e1]
  simp only [Option.bind_some]
  rw [if_pos x0, if_pos x1]
  exact ⟨_, _, _, rfl, ok1, rd_mem xs x x0 x1⟩
theorem new_loop (l : List Int) (sz : (l.length : Int) ≤ 140737488351232) (d : Nat) : ∀ (k : Nat) (h i : Int), 0 ≤ i → i ≤ l.length → (l.length : Int) - i = d → d < k → ∃ g, spec_l01New.l0 k l h i = some (l, 0, g) := by
  induction d with
  | zero =>
    intro k h i h0 h1 hd hk
    obtain ⟨k, rfl⟩ : ∃ m, k = m + 1 := ⟨k - 1, by omega⟩
    exact ⟨h, by simp only [spec_l01New.l0]; rw [if_neg (by omega)]⟩
  | succ d ih =>
    intro k h i h0 h1 hd hk
    obtain ⟨k, rfl⟩ : ∃ m, k = m + 1 := ⟨k - 1, by omega⟩
    simp only [spec_l01New.l0]
    rw [if_pos (by omega)]
    by_cases c : i < 4000
    · rw [if_pos c, if_pos h0, w64 (n := i + 1) (by omega) (by omega)]
      exact ih k _ (i + 1) (by omega) (by omega) (by omega) (by omega)
    · rw [if_neg c]; exact ⟨h, rfl⟩
theorem new_tells (l : List Int) (sz : (l.length : Int) ≤ 140737488351232) : ∃ g, ∀ k, l.length < k → spec_l01New.f k l = some (l, 0, g) := by
  obtain ⟨g, e⟩ := new_loop l sz l.length (l.length + 1) (wrap64 (98347 + (l.length : Int))) 0 (by omega) (by omega) (by omega) (by omega)
  exact ⟨g, fun k hk => at_rounds (fun k => spec_l01New.mono l k) (by omega : l.length + 1 ≤ k) e⟩
theorem ok_start {l : List Int} (sz : (l.length : Int) ≤ 140737488351232) : OkC l 0 := ⟨by omega, by omega, sz⟩
/-- A valid expression. -/
def eok (o a b : Int) : Bool := decide (1 ≤ o ∧ o ≤ 7) && (decide (-8 ≤ a ∧ a ≤ 999) && decide (-8 ≤ b ∧ b ≤ 999))
theorem iexpr (o a b : Int) : impl_ExprOk.f o a b = some (eok o a b) := by
  unfold impl_ExprOk.f impl_OperandOk.f eok
  simp only [within_eq, Option.bind_some]
  cases decide (1 ≤ o ∧ o ≤ 7) <;> cases decide (-8 ≤ a ∧ a ≤ 999) <;> simp
theorem eok_in {o a b : Int} (h : eok o a b = true) : (1 ≤ o ∧ o ≤ 7) ∧ (-8 ≤ a ∧ a ≤ 999) ∧ (-8 ≤ b ∧ b ≤ 999) := by
  unfold eok at h
  simp only [Bool.and_eq_true, decide_eq_true_eq] at h
  exact h
/-- A valid statement. -/
def zok (o a b : Int) : Bool := decide (o = 0) && (decide (a = 0) && decide (b = 0))
def sok (c v n o a b : Int) : Bool :=
  if c = 1 then decide (0 ≤ v ∧ v ≤ 7) && (decide (n = 0) && eok o a b)
  else if c = 2 then decide (0 ≤ v ∧ v ≤ 7) && (decide (0 ≤ n ∧ n ≤ 3) && zok o a b)
  else if c = 3 then decide (v = 0) && (decide (n = 0) && eok o a b)
  else if c = 4 then decide (v = 0) && (decide (n = 0) && eok o a b)
  else if c = 5 then decide (v = 0) && (decide (1 ≤ n ∧ n ≤ 5) && zok o a b)
  else if c = 6 then decide (v = 0) && (decide (n = 0) && zok o a b)
  else false
theorem hasVar_eq (c : Int) : impl_hasVar.f c = some (decide (c = 1 ∨ c = 2)) := by
  unfold impl_hasVar.f
  by_cases h : c = 1
  · rw [if_pos h]; simp [h]
  · rw [if_neg h]; simp [h]; rfl
theorem hasExpr_eq (c : Int) : impl_hasExpr.f c = some (decide (c = 1 ∨ c = 3 ∨ c = 4)) := by
  unfold impl_hasExpr.f
  by_cases h : c = 1
  · rw [if_pos h]; simp [h]
  · rw [if_neg h]
    by_cases h2 : c = 3
    · rw [if_pos h2]; simp [h2]
    · rw [if_neg h2]; simp [h, h2]; rfl
theorem isVar_eq (v : Int) : impl_isVar.f v = some (decide (0 ≤ v ∧ v ≤ 7)) := by
  unfold impl_isVar.f; rw [within_eq]; rfl
theorem isSensor_eq (v : Int) : impl_isSensor.f v = some (decide (0 ≤ v ∧ v ≤ 3)) := by
  unfold impl_isSensor.f; rw [within_eq]; rfl
theorem istmt (c v n o a b : Int) (k : Nat) (hk : 2 ≤ k) : impl_StmtOk.f k c v n o a b = some (sok c v n o a b) := by
  obtain ⟨k, rfl⟩ : ∃ m, k = m + 2 := ⟨k - 2, by omega⟩
  unfold impl_StmtOk.f sok zok
  simp only [within_eq, hasVar_eq, isVar_eq, hasExpr_eq, isSensor_eq, iexpr, Option.bind_some, impl_StmtOk.j0, impl_StmtOk.j1]
  by_cases h1 : c = 1
  · subst h1
    cases decide (0 ≤ v ∧ v ≤ 7) <;> cases eok o a b <;> by_cases hn : n = 0 <;> simp [hn]
  · by_cases h2 : c = 2
    · subst h2
      cases decide (0 ≤ v ∧ v ≤ 7) <;> cases decide (0 ≤ n ∧ n ≤ 3) <;> by_cases ho : o = 0 <;> by_cases ha : a = 0 <;> by_cases hb : b = 0 <;> simp [ho, ha, hb]
    · by_cases h3 : c = 3
      · subst h3
        cases eok o a b <;> by_cases hn : n = 0 <;> by_cases hv : v = 0 <;> simp [hn, hv]
      · by_cases h4 : c = 4
        · subst h4
          cases eok o a b <;> by_cases hn : n = 0 <;> by_cases hv : v = 0 <;> simp [hn, hv]
        · by_cases h5 : c = 5
          · subst h5
            cases decide (1 ≤ n ∧ n ≤ 5) <;> by_cases hv : v = 0 <;> by_cases ho : o = 0 <;> by_cases ha : a = 0 <;> by_cases hb : b = 0 <;> simp [hv, ho, ha, hb]
          · by_cases h6 : c = 6
            · subst h6
              by_cases hn : n = 0 <;> by_cases hv : v = 0 <;> by_cases ho : o = 0 <;> by_cases ha : a = 0 <;> by_cases hb : b = 0 <;> simp [hn, hv, ho, ha, hb]
            · have hw : ¬ (1 ≤ c ∧ c ≤ 6) := by omega
              simp [h1, h2, h3, h4, h5, h6, hw]
theorem operand_in {l : List Int} {i : Int} (h : Int) (ok : OkC l i) : ∃ x i' h', spec_l03Operand.f l i h = some (x, i', h') ∧ OkC l i' ∧ -8 ≤ x ∧ x ≤ 999 := by
  unfold spec_l03Operand.f
  obtain ⟨b, i1, g1, e1, ok1⟩ := once_tells h 2 ok (by omega)
  rw [e1]
  simp only [Option.bind_some]
  by_cases c : b = true
  · rw [if_pos c]
    obtain ⟨x, i2, g2, e2, ok2, x0, x1⟩ := below_tells g1 5 ok1 (by omega)
    rw [e2]
    simp only [Option.bind_some]
    rw [w64 (by omega) (by omega)]
    exact ⟨_, _, _, rfl, ok2, by omega, by omega⟩
  · rw [if_neg c]
    obtain ⟨x, i2, g2, e2, ok2, hx⟩ := pick_tells g1 [0, 1, 2, 3, 10, 999] ok1 (by decide)
    rw [e2]
    simp only [Option.bind_some]
    refine ⟨_, _, _, rfl, ok2, ?_⟩
    simp only [List.mem_cons, List.not_mem_nil, or_false] at hx
    omega
theorem expr_in {l : List Int} {i : Int} (h : Int) (ok : OkC l i) : ∃ o a b i' h', spec_l03Expr.f l i h = some (o, a, b, i', h') ∧ OkC l i' ∧ eok o a b = true := by
  unfold spec_l03Expr.f
  obtain ⟨x, i1, g1, e1, ok1, x0, x1⟩ := below_tells h 7 ok (by omega)
  obtain ⟨a, i2, g2, e2, ok2, a0, a1⟩ := operand_in g1 ok1
  obtain ⟨b, i3, g3, e3, ok3, b0, b1⟩ := operand_in g2 ok2
  rw [e1]
  simp only [Option.bind_some]
  rw [e2]
  simp only [Option.bind_some]
  rw [e3]
  simp only [Option.bind_some]
  rw [w64 (by omega) (by omega)]
  refine ⟨_, _, _, _, _, rfl, ok3, ?_⟩
  unfold eok
  simp
  omega
/-- A valid statement that neither opens nor closes. -/
def plain (c v n o a b : Int) : Prop := sok c v n o a b = true ∧ c ≠ 4 ∧ c ≠ 5 ∧ c ≠ 6
theorem stmt_in {l : List Int} {i : Int} (h : Int) (ok : OkC l i) (k : Nat) (hk : 1 ≤ k) : ∃ c v n o a b i' h', spec_l04Stmt.f k l i h = some (c, v, n, o, a, b, i', h') ∧ OkC l i' ∧ plain c v n o a b := by
  obtain ⟨k, rfl⟩ : ∃ m, k = m + 1 := ⟨k - 1, by omega⟩
  have hj : ∀ (x : Int) (f : Bool) (i1 g1 : Int), OkC l i1 → ∃ c v n o a b i' h', spec_l04Stmt.j0 (k + 1) x f l i1 g1 = some (c, v, n, o, a, b, i', h') ∧ OkC l i' ∧ plain c v n o a b := by
    intro x f i1 g1 ok1
    simp only [spec_l04Stmt.j0]
    by_cases cf : f = true
    · rw [if_pos cf]
      obtain ⟨v, i2, g2, e2, ok2, v0, v1⟩ := below_tells g1 5 ok1 (by omega)
      obtain ⟨n, i3, g3, e3, ok3, n0, n1⟩ := below_tells g2 4 ok2 (by omega)
      rw [e2]
      simp only [Option.bind_some]
      rw [e3]
      simp only [Option.bind_some]
      refine ⟨_, _, _, _, _, _, _, _, rfl, ok3, ?_, by omega, by omega, by omega⟩
      unfold sok zok
      simp
      omega
    · rw [if_neg cf]
      by_cases c2 : x = 2
      · rw [if_pos c2]
        obtain ⟨o, a, b, i2, g2, e2, ok2, he⟩ := expr_in g1 ok1
        rw [e2]
        simp only [Option.bind_some]
        refine ⟨_, _, _, _, _, _, _, _, rfl, ok2, ?_, by omega, by omega, by omega⟩
        unfold sok
        simp [he]
      · rw [if_neg c2]
        obtain ⟨v, i2, g2, e2, ok2, v0, v1⟩ := below_tells g1 5 ok1 (by omega)
        obtain ⟨o, a, b, i3, g3, e3, ok3, he⟩ := expr_in g2 ok2
        rw [e2]
        simp only [Option.bind_some]
        rw [e3]
        simp only [Option.bind_some]
        refine ⟨_, _, _, _, _, _, _, _, rfl, ok3, ?_, by omega, by omega, by omega⟩
        unfold sok
        simp [he]
        omega
  unfold spec_l04Stmt.f
  obtain ⟨x, i1, g1, e1, ok1, x0, x1⟩ := below_tells h 7 ok (by omega)
  rw [e1]
  simp only [Option.bind_some]
  by_cases c : x = 0
  · rw [if_pos c]; exact hj _ _ _ _ ok1
  · rw [if_neg c]; exact hj _ _ _ _ ok1
/-- A number behind a space. -/
def spn (n : Int) : List UInt8 := 32 :: Lib.itoa n
/-- A statement's word. -/
def kw (c : Int) : List UInt8 := if c = 1 then [115, 101, 116] else if c = 2 then [115, 101, 110, 115, 101] else if c = 3 then [115, 101, 110, 100] else if c = 4 then [105, 102] else if c = 5 then [108, 111, 111, 112] else [101, 110, 100]
/-- A statement's numbers. -/
def nums (c v n o a b : Int) : List Int := if c = 1 then [v, o, a, b] else if c = 2 then [v, n] else if c = 3 ∨ c = 4 then [o, a, b] else if c = 5 then [n] else []
/-- A statement's text. -/
def canon (c v n o a b : Int) : List UInt8 := kw c ++ (nums c v n o a b).flatMap spn
theorem rd_at (pre : List Int) (n : Int) (u : List Int) : rd (pre ++ n :: u) (pre.length : Int) = n := by
  unfold Go.Proofs.YtcpmkcidehhbiaaDoorW.PrintWords.rd
  simp [List.getD]
def i64 (n : Int) : Prop := -9223372036854775808 ≤ n ∧ n ≤ 9223372036854775807
theorem spn_tx (n : Int) : (⟨#[32]⟩ : ByteArray) ++ (⟨(Lib.itoa n).toArray⟩ : ByteArray) = tx (spn n) := tx_app [32] (Lib.itoa n)
theorem spn_len {n : Int} (h : i64 n) : (spn n).length ≤ 21 := by
  have := itoa_len h.1 h.2
  unfold spn
  rw [List.length_cons]; omega
theorem spaced_loop (ns : List Int) (hl : ns.length ≤ 100) (u : List Int) : ∀ (k : Nat) (x : List UInt8) (pre : List Int), ns = pre ++ u → (∀ n ∈ u, i64 n) → x.length + 30 * u.length ≤ 100000 → u.length < k →
    impl_spaced.l0 k (tx x) ns (ns.length : Int) (pre.length : Int) = some (tx (x ++ u.flatMap spn)) := by
  induction u with
  | nil =>
    intro k x pre e _ _ hk
    obtain ⟨k, rfl⟩ : ∃ m, k = m + 1 := ⟨k - 1, by omega⟩
    simp only [impl_spaced.l0]
    rw [if_neg (by rw [e]; simp)]
    simp
  | cons n u ih =>
    intro k x pre e hn hx hk
    simp only [List.length_cons] at hk hx
    obtain ⟨k, rfl⟩ : ∃ m, k = m + 1 := ⟨k - 1, by omega⟩
    have hlen : ns.length = pre.length + (u.length + 1) := by rw [e]; simp
    have h0 := hn n (by simp)
    have hs := spn_len h0
    have hz : (⟨(Lib.itoa n).toArray⟩ : ByteArray).size = (Lib.itoa n).length := tx_size _
    have hi := itoa_len h0.1 h0.2
    have i2 := ih k (x ++ spn n) (pre ++ [n]) (by rw [e]; simp) (fun y hy => hn y (by simp [hy])) (by rw [List.length_append]; omega) (by omega)
    rw [List.length_append, List.length_singleton] at i2
    simp only [impl_spaced.l0]
    rw [if_pos (by omega), if_pos (by omega), if_pos (by omega), show rd ns (pre.length : Int) = n by rw [e]; exact rd_at pre n u, ifmt n h0.1 h0.2]
    simp only [Option.bind_some]
    rw [spn_tx, tx_size, tx_size, hz, if_pos (by omega), if_pos (by omega), tx_app, w64 (by omega) (by omega), show ((pre.length : Nat) : Int) + 1 = ((pre.length + 1 : Nat) : Int) by omega, i2]
    simp
theorem spaced_tells (x : List UInt8) (ns : List Int) (hl : ns.length ≤ 100) (hx : x.length ≤ 1000) (hn : ∀ n ∈ ns, i64 n) (k : Nat) (hk : ns.length < k) : impl_spaced.f k (tx x) ns = some (tx (x ++ ns.flatMap spn)) := by
  unfold impl_spaced.f
  exact spaced_loop ns hl ns k x [] (by simp) hn (by omega) hk
theorem hasN_eq (c : Int) : impl_hasN.f c = some (decide (c = 2 ∨ c = 5)) := by
  unfold impl_hasN.f
  by_cases h : c = 2
  · rw [if_pos h]; simp [h]
  · rw [if_neg h]; simp [h]; rfl
theorem sok_kind {c v n o a b : Int} (h : sok c v n o a b = true) : c = 1 ∨ c = 2 ∨ c = 3 ∨ c = 4 ∨ c = 5 ∨ c = 6 := by
  unfold sok at h
  by_cases h1 : c = 1; · exact Or.inl h1
  by_cases h2 : c = 2; · exact Or.inr (Or.inl h2)
  by_cases h3 : c = 3; · exact Or.inr (Or.inr (Or.inl h3))
  by_cases h4 : c = 4; · exact Or.inr (Or.inr (Or.inr (Or.inl h4)))
  by_cases h5 : c = 5; · exact Or.inr (Or.inr (Or.inr (Or.inr (Or.inl h5))))
  by_cases h6 : c = 6; · exact Or.inr (Or.inr (Or.inr (Or.inr (Or.inr h6))))
  rw [if_neg h1, if_neg h2, if_neg h3, if_neg h4, if_neg h5, if_neg h6] at h
  cases h
/-- The numbers of a valid statement are small. -/
theorem nums_small {c v n o a b : Int} (h : sok c v n o a b = true) : ∀ x ∈ nums c v n o a b, -8 ≤ x ∧ x ≤ 999 := by
  intro x hx
  rcases sok_kind h with rfl | rfl | rfl | rfl | rfl | rfl
  · simp only [sok, if_true, Bool.and_eq_true, decide_eq_true_eq] at h
    have he := eok_in h.2.2
    simp only [nums, if_true, List.mem_cons, List.not_mem_nil, or_false] at hx
    omega
  · simp [sok] at h
    simp [nums] at hx
    omega
  · simp [sok] at h
    have he := eok_in h.2.2
    simp [nums] at hx
    omega
  · simp [sok] at h
    have he := eok_in h.2.2
    simp [nums] at hx
    omega
  · simp [sok] at h
    simp [nums] at hx
    omega
  · simp [nums] at hx
theorem nums_len (c v n o a b : Int) : (nums c v n o a b).length ≤ 4 := by
  unfold nums
  repeat' split
  all_goals simp
theorem kw_len (c : Int) : (kw c).length ≤ 5 := by
  unfold kw
  repeat' split
  all_goals simp
theorem iformat (c v n o a b : Int) (k : Nat) (hk : 20 ≤ k) : impl_FormatStmt.f k c v n o a b = some (tx (if sok c v n o a b = true then canon c v n o a b else [])) := by
  unfold impl_FormatStmt.f
  rw [istmt c v n o a b k (by omega)]
  simp only [Option.bind_some]
  by_cases h : sok c v n o a b = true
  · rw [if_pos h, if_pos h]
    have hs := nums_small h
    have hi : ∀ x ∈ nums c v n o a b, i64 x := fun x hx => by have := hs x hx; unfold i64; omega
    have hsp := spaced_tells (kw c) (nums c v n o a b) (by have := nums_len c v n o a b; omega) (by have := kw_len c; omega) hi
    obtain ⟨k, rfl⟩ : ∃ m, k = m + 2 := ⟨k - 2, by omega⟩
    have h2 := hsp k (by have := nums_len c v n o a b; omega)
    unfold canon
    rcases sok_kind h with rfl | rfl | rfl | rfl | rfl | rfl <;>
      simp [hasVar_eq, hasN_eq, hasExpr_eq, impl_FormatStmt.j0, impl_FormatStmt.j1, impl_stmtNames.f, Go.Proofs.YtcpmkcidehhbiaaDoorW.PrintWords.rdOf, nums, kw] at h2 ⊢ <;> exact h2
  · rw [if_neg h, if_neg h]; rfl
theorem pu_app (l : List UInt8) : ∀ (acc u : Nat) (r : List UInt8), Lib.parseUint10 acc l = .ok u → Lib.parseUint10 acc (l ++ r) = Lib.parseUint10 u r := by
  induction l with
  | nil => intro acc u r h; simp only [Lib.parseUint10] at h; injection h with h; subst h; rfl
  | cons c l ih =>
    intro acc u r h
    simp only [Lib.parseUint10] at h
    split at h
    · rename_i hc
      split at h
      · cases h
      · rename_i h1
        split at h
        · cases h
        · rename_i h2
          rw [List.cons_append]
          simp only [Lib.parseUint10]
          rw [if_pos hc, if_neg h1, if_neg h2]
          exact ih _ _ _ h
    · cases h
theorem fig_nat (n : Nat) (h : n < 10) : (UInt8.ofNat (48 + n)).toNat = 48 + n := UInt8.toNat_ofNat_of_lt' (by show 48 + n < 256; omega)
theorem pu_dec (n : Nat) : n < 18446744073709551616 → Lib.parseUint10 0 (Lib.decDigits n) = .ok n := by
  induction n using Nat.strongRecOn with
  | _ n ih =>
    intro h
    by_cases c : n < 10
    · rw [Lib.decDigits_one c]
      simp only [Lib.parseUint10, fig_nat n c]
      rw [if_pos (by omega), if_neg (by omega), if_neg (by omega)]
      congr 1; omega
    · rw [Lib.decDigits, dif_neg c, pu_app _ _ _ _ (ih (n / 10) (by omega) (by omega))]
      simp only [Lib.parseUint10, fig_nat (n % 10) (by omega)]
      rw [if_pos (by omega), if_neg (by omega), if_neg (by omega)]
      congr 1; omega
theorem dec_digit (n : Nat) : ∀ c ∈ Lib.decDigits n, 48 ≤ c.toNat ∧ c.toNat ≤ 57 := by
  induction n using Nat.strongRecOn with
  | _ n ih =>
    intro c hc
    by_cases d : n < 10
    · rw [Lib.decDigits_one d] at hc
      obtain rfl := List.mem_singleton.1 hc
      rw [fig_nat n d]; omega
    · rw [Lib.decDigits, dif_neg d] at hc
      rcases List.mem_append.1 hc with hc | hc
      · exact ih (n / 10) (by omega) c hc
      · obtain rfl := List.mem_singleton.1 hc
        rw [fig_nat (n % 10) (by omega)]; omega
theorem dec_ne (n : Nat) : Lib.decDigits n ≠ [] := by
  intro e
  have h := Lib.decDigits_length n
  rw [e] at h
  have := Lib.nDigits_pos n
  simp at h
  omega
theorem dec_len (n : Nat) (h : n < 10000000000) : (Lib.decDigits n).length ≤ 10 := by
  rw [Lib.decDigits_length]
  have hb : ∀ (k u : Nat), u < 10 ^ (k + 1) → Lib.nDigits u ≤ k + 1 := by
    intro k
    induction k with
    | zero => intro u hu; rw [Lib.nDigits_small (by simpa using hu)]; omega
    | succ k ih =>
      intro u hu
      by_cases c : u < 10
      · rw [Lib.nDigits_small c]; omega
      · rw [Lib.nDigits_big c]
        have := ih (u / 10) (by rw [Nat.pow_succ] at hu; omega)
        omega
  exact hb 9 n (by simpa using h)
theorem atoi_dec (n : Nat) (h : n < 9223372036854775808) : Lib.atoiAll (Lib.decDigits n) = .ok (n : Int) := by
  cases e : Lib.decDigits n with
  | nil => exact absurd e (dec_ne n)
  | cons c r =>
    have hc := dec_digit n c (by rw [e]; simp)
    rw [Lib.atoiAll_plain c r (by omega) (by omega), ← e]
    unfold Lib.parseMag
    rw [if_neg (dec_ne n), pu_dec n (by omega)]
    simp only [Lib.signless]
    rw [if_neg (by omega)]
/-- The number that digits spell. -/
def dval (acc : Nat) (l : List UInt8) : Nat := l.foldl (fun a c => 10 * a + (c.toNat - 48)) acc
theorem dval_dec (n : Nat) : dval 0 (Lib.decDigits n) = n := by
  induction n using Nat.strongRecOn with
  | _ n ih =>
    by_cases c : n < 10
    · rw [Lib.decDigits_one c]
      simp only [dval, List.foldl_cons, List.foldl_nil, fig_nat n c]; omega
    · have h := ih (n / 10) (by omega)
      unfold dval at h ⊢
      rw [Lib.decDigits, dif_neg c, List.foldl_append, h]
      simp only [List.foldl_cons, List.foldl_nil, fig_nat (n % 10) (by omega)]; omega
/-- What ParseUint gives. -/
def puv (l : List UInt8) : Int × Bool := if dval 0 l ≤ 1000000000 ∧ Lib.decDigits (dval 0 l) = l then ((dval 0 l : Int), true) else (0, false)
theorem puv_of (n : Nat) (h : n ≤ 1000000000) : puv (Lib.decDigits n) = ((n : Int), true) := by
  unfold puv
  rw [dval_dec, if_pos ⟨h, rfl⟩]
theorem itoa_nat (n : Nat) : Lib.itoa (n : Int) = Lib.decDigits n := Lib.itoa_nonneg n
theorem data_back (s : ByteArray) : (⟨s.data.toList.toArray⟩ : ByteArray) = s := by cases s; simp
/-- A list cut at each c. -/
def cutGo (c : UInt8) : List UInt8 → List UInt8 → List (List UInt8)
  | cur, [] => [cur]
  | cur, b :: l => if b = c then cur :: cutGo c [] l else cutGo c (cur ++ [b]) l
theorem cut_free (c : UInt8) : ∀ (p cur : List UInt8), (∀ b ∈ p, b ≠ c) → cutGo c cur p = [cur ++ p]
  | [], cur, _ => by simp [cutGo]
  | b :: p, cur, h => by
    rw [cutGo, if_neg (h b (by simp)), cut_free c p (cur ++ [b]) (fun x hx => h x (by simp [hx]))]
    simp
theorem cut_at (c : UInt8) : ∀ (p cur r : List UInt8), (∀ b ∈ p, b ≠ c) → cutGo c cur (p ++ c :: r) = (cur ++ p) :: cutGo c [] r
  | [], cur, r, _ => by rw [List.nil_append, cutGo, if_pos rfl]; simp
  | b :: p, cur, r, h => by
    rw [List.cons_append, cutGo, if_neg (h b (by simp)), cut_at c p (cur ++ [b]) r (fun x hx => h x (by simp [hx]))]
    simp
theorem split_cut (c : UInt8) (n : Nat) : ∀ l : List UInt8, l.length ≤ n → Lib.split l [c] = cutGo c [] l := by
  induction n with
  | zero =>
    intro l hl
    have : l = [] := List.length_eq_zero_iff.1 (by omega)
    subst this
    unfold Lib.split
    rw [Lib.count_one]
    rfl
  | succ n ih =>
    intro l hl
    rcases Lib.index_spec l [c] with ⟨h, hno⟩ | ⟨i, h, hi, ho, _⟩
    · have hfree : ∀ b ∈ l, b ≠ c := by
        intro b hb e
        obtain ⟨k, hk, rfl⟩ := List.mem_iff_getElem.1 hb
        rw [Lib.index_one] at h
        exact Lib.indexByte_none h k (by rw [List.getElem?_eq_getElem hk, e])
      unfold Lib.split
      rw [Lib.count_miss h, cut_free c l [] hfree]
      rfl
    · rw [Lib.index_one] at h
      obtain ⟨h1, h2⟩ := Lib.indexByte_some h
      have hlt : i < l.length := by
        rcases Nat.lt_or_ge i l.length with z | z
        · exact z
        · rw [List.getElem?_eq_none z] at h1; cases h1
      have e : l = l.take i ++ c :: l.drop (i + 1) := by
        conv => lhs; rw [← List.take_append_drop i l]
        congr 1
        rw [List.drop_eq_getElem_cons hlt]
        congr 1
        rw [List.getElem?_eq_getElem hlt] at h1
        exact Option.some.inj h1
      have hfree : ∀ b ∈ l.take i, b ≠ c := by
        intro b hb e
        obtain ⟨k, hk, rfl⟩ := List.mem_iff_getElem.1 hb
        have hk2 : k < i := by simp only [List.length_take] at hk; omega
        refine h2 k hk2 ?_
        rw [List.getElem?_eq_getElem (by omega)]
        rw [List.getElem_take] at e
        rw [e]
      have hc := Lib.count_hit (s := l) (sub := [c]) (i := i) (by simp) (by rw [Lib.index_one]; exact h)
      have hd := ih (l.drop (i + 1)) (by rw [List.length_drop]; omega)
      unfold Lib.split at hd ⊢
      simp only [List.length_singleton] at hc
      rw [hc, Nat.add_comm 1, Lib.splitK, Lib.index_one, h]
      have hm : ¬ (((i : Nat) : Int) == -1) = true := fun z => by have := beq_iff_eq.1 z; omega
      rw [if_neg hm]
      simp only [Int.toNat_natCast, List.length_singleton, Nat.add_zero]
      rw [hd]
      conv => rhs; rw [e]
      rw [cut_at c _ [] _ hfree]
      simp
/-- The pieces of a text, as texts. -/
theorem splitB_cut (s : ByteArray) (c : UInt8) : (Lib.splitB ⟨#[c]⟩ 0 (Lib.countB s ⟨#[c]⟩) s).map (·.data.toList) = cutGo c [] s.data.toList := by
  rw [Lib.splitB_data]
  exact split_cut c _ s.data.toList (Nat.le_refl _)
theorem cut_words (c : UInt8) : ∀ (ws : List (List UInt8)) (w : List UInt8), (∀ b ∈ w, b ≠ c) → (∀ x ∈ ws, ∀ b ∈ x, b ≠ c) → cutGo c [] (w ++ ws.flatMap fun x => c :: x) = w :: ws
  | [], w, h, _ => by simpa using cut_free c w [] h
  | x :: ws, w, h, hs => by
    rw [List.flatMap_cons, List.cons_append, cut_at c w [] _ h, cut_words c ws x (hs x (by simp)) (fun y hy => hs y (by simp [hy]))]
    simp
/-- A byte that no line holds. -/
def bad (b : UInt8) : Bool := decide (b.toNat < 32 ∨ 126 < b.toNat)
theorem isSp_ok {b : UInt8} (h : bad b = false) : Lib.isSp b = decide (b.toNat = 32) := by
  have e : ∀ n : Nat, n < 256 → (b == UInt8.ofNat n) = decide (b.toNat = n) := by
    intro n hn
    by_cases c : b.toNat = n
    · have : b = UInt8.ofNat n := by apply UInt8.toNat_inj.1; rw [UInt8.toNat_ofNat_of_lt' (by exact hn)]; exact c
      rw [decide_eq_true c, this]; exact beq_self_eq_true _
    · have : b ≠ UInt8.ofNat n := by intro e2; apply c; rw [e2, UInt8.toNat_ofNat_of_lt' (by exact hn)]
      simp [c, this]
  have h' : ¬ (b.toNat < 32 ∨ 126 < b.toNat) := by simpa [bad] using h
  have e9 := e 9 (by omega); have e10 := e 10 (by omega); have e11 := e 11 (by omega); have e12 := e 12 (by omega); have e13 := e 13 (by omega); have e32 := e 32 (by omega)
  unfold Lib.isSp
  rw [show (9 : UInt8) = UInt8.ofNat 9 from rfl, show (10 : UInt8) = UInt8.ofNat 10 from rfl, show (11 : UInt8) = UInt8.ofNat 11 from rfl, show (12 : UInt8) = UInt8.ofNat 12 from rfl, show (13 : UInt8) = UInt8.ofNat 13 from rfl, show (32 : UInt8) = UInt8.ofNat 32 from rfl, e9, e10, e11, e12, e13, e32,
    decide_eq_false (show ¬ b.toNat = 9 by omega), decide_eq_false (show ¬ b.toNat = 10 by omega), decide_eq_false (show ¬ b.toNat = 11 by omega), decide_eq_false (show ¬ b.toNat = 12 by omega), decide_eq_false (show ¬ b.toNat = 13 by omega)]
  rfl
/-- The fields of a line, none where it is no line. -/
def spf (l : List UInt8) : Option (List (List UInt8)) := if 600 < l.length ∨ l.any bad = true then none else if 24 < (Lib.fields l).length then none else some (Lib.fields l)
/-- What both give. -/
def spr (l : List UInt8) : List ByteArray × Bool := match spf l with | some p => (p.map tx, true) | none => ([], false)
theorem fieldsGo_good : ∀ (l cur : List UInt8), (∀ b ∈ l, bad b = false) → (∀ b ∈ cur, bad b = false ∧ Lib.isSp b = false) → ∀ p ∈ Lib.fieldsGo cur l, p ≠ [] ∧ ∀ b ∈ p, bad b = false ∧ Lib.isSp b = false
  | [], cur, _, hc => by
    intro p hp
    cases cur with
    | nil => simp [Lib.fieldsGo] at hp
    | cons c r =>
      simp [Lib.fieldsGo] at hp
      subst hp
      exact ⟨by simp, hc⟩
  | b :: l, cur, hl, hc => by
    intro p hp
    have hb := hl b (by simp)
    have hl2 : ∀ b ∈ l, bad b = false := fun x hx => hl x (by simp [hx])
    cases hs : Lib.isSp b with
    | true =>
      cases cur with
      | nil => rw [Lib.fieldsGo_sp b l hs] at hp; exact fieldsGo_good l [] hl2 (by simp) p hp
      | cons c r =>
        rw [Lib.fieldsGo_end (c :: r) b l hs (by simp)] at hp
        rcases List.mem_cons.1 hp with e | hp
        · subst e; exact ⟨by simp, hc⟩
        · exact fieldsGo_good l [] hl2 (by simp) p hp
    | false =>
      rw [Lib.fieldsGo_more cur b l hs] at hp
      refine fieldsGo_good l (cur ++ [b]) hl2 ?_ p hp
      intro x hx
      rcases List.mem_append.1 hx with hx | hx
      · exact hc x hx
      · obtain rfl := List.mem_singleton.1 hx; exact ⟨hb, hs⟩
theorem fieldsGo_run : ∀ (p cur : List UInt8) (r : List UInt8), (∀ b ∈ p, Lib.isSp b = false) → Lib.fieldsGo cur (p ++ r) = Lib.fieldsGo (cur ++ p) r
  | [], cur, r, _ => by simp
  | b :: p, cur, r, h => by
    rw [List.cons_append, Lib.fieldsGo_more cur b _ (h b (by simp)), fieldsGo_run p (cur ++ [b]) r (fun x hx => h x (by simp [hx]))]
    simp
theorem sp32 : Lib.isSp 32 = true := by decide
theorem fields_join : ∀ (ps : List (List UInt8)), (∀ p ∈ ps, p ≠ [] ∧ ∀ b ∈ p, Lib.isSp b = false) → Lib.fields (ps.flatMap fun p => p ++ [32]) = ps
  | [], _ => by simp [Lib.fields, Lib.fieldsGo]
  | p :: ps, h => by
    have hp := h p (by simp)
    have ih := fields_join ps (fun q hq => h q (by simp [hq]))
    unfold Lib.fields at ih ⊢
    rw [List.flatMap_cons, List.append_assoc, fieldsGo_run p [] _ hp.2, List.nil_append, List.singleton_append, Lib.fieldsGo_end p 32 _ sp32 hp.1, ih]
def bad_int (n : Int) : Bool := decide (n < 32 ∨ 126 < n)
theorem bad_eq (b : UInt8) : bad b = bad_int (b.toNat : Int) := by
  unfold bad bad_int
  by_cases c : b.toNat < 32 ∨ 126 < b.toNat
  · rw [decide_eq_true c, decide_eq_true (by omega)]
  · rw [decide_eq_false c, decide_eq_false (by omega)]
theorem ext_tx (s : ByteArray) (i j : Nat) (h : j ≤ s.size) : s.extract i j = tx ((s.data.toList.drop i).take (j - i)) := by
  apply ByteArray.ext
  apply Array.toList_inj.1
  rw [ByteArray.data_extract]
  simp [tx]
theorem any_bad (l : List UInt8) : (l.map fun b => (b.toNat : Int)).any bad_int = l.any bad := by
  rw [List.any_map]
  congr 1
  funext b
  exact (bad_eq b).symm
theorem ibad : impl_SplitFields.bad = bad_int := rfl
theorem ispl (s : ByteArray) : impl_SplitFields.f s = some (spr s.data.toList) := by
  have hz := size_tl s
  have hb : (bytesOf s).any impl_SplitFields.bad = s.data.toList.any bad := by rw [ibad]; exact any_bad _
  unfold impl_SplitFields.f spr spf
  rw [hb]
  by_cases c : 600 < s.size
  · rw [if_pos c, if_pos (Or.inl (by omega))]
  · rw [if_neg c]
    by_cases d : s.data.toList.any bad = true
    · rw [if_pos d, if_pos (Or.inr d)]
    · have hn : ¬ (600 < s.data.toList.length ∨ s.data.toList.any bad = true) := fun z => z.elim (fun y => by omega) d
      rw [if_neg d, if_neg hn]
      by_cases q : 24 < (Lib.fields s.data.toList).length
      · rw [if_pos q, if_pos q]
      · rw [if_neg q, if_neg q]; rfl
theorem itoa_no32 (n : Int) : ∀ b ∈ Lib.itoa n, b ≠ 32 := by
  intro b hb
  unfold Lib.itoa at hb
  split at hb
  · rcases List.mem_cons.1 hb with e | hb
    · subst e; decide
    · have := dec_digit _ b hb
      intro e; subst e; simp at this
  · have := dec_digit _ b hb
    intro e; subst e; simp at this
theorem kw_no32 (c : Int) : ∀ b ∈ kw c, b ≠ 32 := by
  unfold kw
  repeat' split
  all_goals decide
theorem canon_cut (c v n o a b : Int) : cutGo 32 [] (canon c v n o a b) = kw c :: (nums c v n o a b).map Lib.itoa := by
  unfold canon
  have e : (nums c v n o a b).flatMap spn = ((nums c v n o a b).map Lib.itoa).flatMap (fun x => 32 :: x) := by
    rw [List.flatMap_map]; rfl
  rw [e]
  refine cut_words 32 _ _ (kw_no32 c) ?_
  intro x hx b hb
  obtain ⟨n, -, rfl⟩ := List.mem_map.1 hx
  exact itoa_no32 n b hb
theorem cut_len (c : UInt8) : ∀ (l cur : List UInt8), (cutGo c cur l).length = l.count c + 1
  | [], cur => by simp [cutGo]
  | b :: l, cur => by
    unfold cutGo
    by_cases h : b = c
    · subst h; rw [if_pos rfl, List.length_cons, cut_len b l []]; simp
    · rw [if_neg h, cut_len c l, List.count_cons_of_ne h]
theorem join_words (ps : List (List UInt8)) (w : List UInt8) : Lib.join (w :: ps) [32] = w ++ ps.flatMap fun x => 32 :: x := by
  rw [Lib.join_cons]
  unfold Lib.joinTail
  rw [List.flatMap_def]
  rfl
/-- A statement that a word and its numbers spell. -/
def mkS (c z0 z1 z2 z3 : Int) : Int × Int × Int × Int × Int × Int :=
  if c = 1 then (1, z0, 0, z1, z2, z3) else if c = 2 then (2, z0, z1, 0, 0, 0) else if c = 3 then (3, 0, 0, z0, z1, z2) else if c = 4 then (4, 0, 0, z0, z1, z2) else if c = 5 then (5, 0, z0, 0, 0, 0) else (c, 0, 0, 0, 0, 0)
/-- It is valid, and its text is T. -/
def good (T : List UInt8) (x : Int × Int × Int × Int × Int × Int) : Bool := sok x.1 x.2.1 x.2.2.1 x.2.2.2.1 x.2.2.2.2.1 x.2.2.2.2.2 && decide (canon x.1 x.2.1 x.2.2.1 x.2.2.2.1 x.2.2.2.2.1 x.2.2.2.2.2 = T)
theorem itoa_small (n : Int) (h0 : -8 ≤ n) (h1 : n ≤ 999) : Lib.atoiAll (Lib.itoa n) = .ok n := by
  by_cases h : 0 ≤ n
  · obtain ⟨m, rfl⟩ : ∃ m : Nat, n = m := ⟨n.toNat, by omega⟩
    rw [itoa_nat]
    exact atoi_dec m (by omega)
  · have hm : n.natAbs < 10 := by omega
    unfold Lib.itoa
    rw [if_pos (by omega), Lib.atoiAll_minus, Lib.decDigits_one hm]
    rcases (show n = -1 ∨ n = -2 ∨ n = -3 ∨ n = -4 ∨ n = -5 ∨ n = -6 ∨ n = -7 ∨ n = -8 by omega) with rfl | rfl | rfl | rfl | rfl | rfl | rfl | rfl <;> rfl
theorem sok_mk {c v n o a b : Int} (h : sok c v n o a b = true) : 1 ≤ c ∧ c ≤ 6 := by have := sok_kind h; omega
theorem kw_inj {c d : Int} (hc : 1 ≤ c ∧ c ≤ 6) (hd : 1 ≤ d ∧ d ≤ 6) (h : kw c = kw d) : c = d := by
  rcases (show c = 1 ∨ c = 2 ∨ c = 3 ∨ c = 4 ∨ c = 5 ∨ c = 6 by omega) with rfl | rfl | rfl | rfl | rfl | rfl <;>
  rcases (show d = 1 ∨ d = 2 ∨ d = 3 ∨ d = 4 ∨ d = 5 ∨ d = 6 by omega) with rfl | rfl | rfl | rfl | rfl | rfl <;>
  first | rfl | (exact absurd h (by decide))
theorem mkS_kind (c z0 z1 z2 z3 : Int) : (mkS c z0 z1 z2 z3).1 = c := by
  unfold mkS
  split; · simp_all
  split; · simp_all
  split; · simp_all
  split; · simp_all
  split; · simp_all
  rfl
/-- The pieces of a text that a statement has. -/
theorem good_cut {T : List UInt8} {x : Int × Int × Int × Int × Int × Int} (h : good T x = true) : (1 ≤ x.1 ∧ x.1 ≤ 6) ∧ cutGo 32 [] T = kw x.1 :: (nums x.1 x.2.1 x.2.2.1 x.2.2.2.1 x.2.2.2.2.1 x.2.2.2.2.2).map Lib.itoa ∧ ∀ n ∈ nums x.1 x.2.1 x.2.2.1 x.2.2.2.1 x.2.2.2.2.1 x.2.2.2.2.2, -8 ≤ n ∧ n ≤ 999 := by
  unfold good at h
  rw [Bool.and_eq_true, decide_eq_true_eq] at h
  refine ⟨sok_mk h.1, ?_, nums_small h.1⟩
  rw [← h.2]
  exact canon_cut _ _ _ _ _ _
theorem good_kind {T : List UInt8} {x y : Int × Int × Int × Int × Int × Int} (h : good T x = true) (k : good T y = true) : x.1 = y.1 := by
  have h1 := good_cut h
  have h2 := good_cut k
  have e := h1.2.1.symm.trans h2.2.1
  exact kw_inj h1.1 h2.1 (List.cons.inj e).1
/-- What a parse gives of a statement. -/
def ans (x : Int × Int × Int × Int × Int × Int) : Int × Int × Int × Int × Int × Int × Bool := (x.1, x.2.1, x.2.2.1, x.2.2.2.1, x.2.2.2.2.1, x.2.2.2.2.2, true)
/-- The number behind the j-th word. -/
def zat (s : ByteArray) (j : Nat) : Int := impl_parseStmt.atv ((impl_parseStmt.wsOf s).getD j ByteArray.empty)
theorem fill_mk (ws : List ByteArray) (K : Int) : impl_parseStmt.fill ws (impl_parseStmt.offs1 K ++ impl_parseStmt.offs2 K ++ impl_parseStmt.offs3 K) 0 [K, 0, 0, 0, 0, 0] = [(mkS K (impl_parseStmt.atv (ws.getD 1 ByteArray.empty)) (impl_parseStmt.atv (ws.getD 2 ByteArray.empty)) (impl_parseStmt.atv (ws.getD 3 ByteArray.empty)) (impl_parseStmt.atv (ws.getD 4 ByteArray.empty))).1, (mkS K (impl_parseStmt.atv (ws.getD 1 ByteArray.empty)) (impl_parseStmt.atv (ws.getD 2 ByteArray.empty)) (impl_parseStmt.atv (ws.getD 3 ByteArray.empty)) (impl_parseStmt.atv (ws.getD 4 ByteArray.empty))).2.1, (mkS K (impl_parseStmt.atv (ws.getD 1 ByteArray.empty)) (impl_parseStmt.atv (ws.getD 2 ByteArray.empty)) (impl_parseStmt.atv (ws.getD 3 ByteArray.empty)) (impl_parseStmt.atv (ws.getD 4 ByteArray.empty))).2.2.1, (mkS K (impl_parseStmt.atv (ws.getD 1 ByteArray.empty)) (impl_parseStmt.atv (ws.getD 2 ByteArray.empty)) (impl_parseStmt.atv (ws.getD 3 ByteArray.empty)) (impl_parseStmt.atv (ws.getD 4 ByteArray.empty))).2.2.2.1, (mkS K (impl_parseStmt.atv (ws.getD 1 ByteArray.empty)) (impl_parseStmt.atv (ws.getD 2 ByteArray.empty)) (impl_parseStmt.atv (ws.getD 3 ByteArray.empty)) (impl_parseStmt.atv (ws.getD 4 ByteArray.empty))).2.2.2.2.1, (mkS K (impl_parseStmt.atv (ws.getD 1 ByteArray.empty)) (impl_parseStmt.atv (ws.getD 2 ByteArray.empty)) (impl_parseStmt.atv (ws.getD 3 ByteArray.empty)) (impl_parseStmt.atv (ws.getD 4 ByteArray.empty))).2.2.2.2.2] := by
  by_cases h1 : K = 1; · subst h1; rfl
  by_cases h2 : K = 2; · subst h2; rfl
  by_cases h3 : K = 3; · subst h3; rfl
  by_cases h4 : K = 4; · subst h4; rfl
  by_cases h5 : K = 5; · subst h5; rfl
  unfold impl_parseStmt.offs1 impl_parseStmt.offs2 impl_parseStmt.offs3 mkS
  simp [h1, h2, h3, h4, h5, impl_parseStmt.fill]
theorem canon_ne (c v n o a b : Int) : canon c v n o a b ≠ [] := by
  have hk : kw c ≠ [] := by
    unfold kw
    repeat' split
    all_goals decide
  unfold canon
  intro e
  exact hk (List.append_eq_nil_iff.1 e).1
theorem iparse (s : ByteArray) (hs : s.size < 4294967281) (k : Nat) (hk : 20 ≤ k) :
    impl_parseStmt.f k s = some (if Lib.countB s ⟨#[32]⟩ = (impl_parseStmt.offs1 (impl_parseStmt.kindOf s) ++ impl_parseStmt.offs2 (impl_parseStmt.kindOf s) ++ impl_parseStmt.offs3 (impl_parseStmt.kindOf s)).length ∧ good s.data.toList (mkS (impl_parseStmt.kindOf s) (zat s 1) (zat s 2) (zat s 3) (zat s 4)) = true then ans (mkS (impl_parseStmt.kindOf s) (zat s 1) (zat s 2) (zat s 3) (zat s 4)) else (0, 0, 0, 0, 0, 0, false)) := by
  unfold impl_parseStmt.f
  rw [if_pos hs]
  by_cases h : Lib.countB s ⟨#[32]⟩ = (impl_parseStmt.offs1 (impl_parseStmt.kindOf s) ++ impl_parseStmt.offs2 (impl_parseStmt.kindOf s) ++ impl_parseStmt.offs3 (impl_parseStmt.kindOf s)).length
  · rw [if_pos h, fill_mk]
    have ez : ∀ j, impl_parseStmt.atv ((impl_parseStmt.wsOf s).getD j ByteArray.empty) = zat s j := fun _ => rfl
    rw [ez, ez, ez, ez]
    generalize mkS (impl_parseStmt.kindOf s) (zat s 1) (zat s 2) (zat s 3) (zat s 4) = x
    obtain ⟨c, v, n, o, a, b⟩ := x
    show (impl_FormatStmt.f k c v n o a b).bind _ = _
    rw [iformat c v n o a b k hk]
    simp only [Option.bind_some, h, true_and]
    unfold good
    have hn : ∀ l : List UInt8, (tx l).toList = l := fun l => by rw [ByteArray.toList_eq]; rfl
    by_cases g : sok c v n o a b = true
    · simp only [g, if_true, Bool.true_and, decide_eq_true_eq, hn, canon_ne, if_false, ByteArray.toList_eq, ans]
      split <;> rfl
    · simp [g, hn]
  · rw [if_neg h, if_neg (fun z => h z.1)]
theorem ws_cut (s : ByteArray) : (impl_parseStmt.wsOf s).map (·.data.toList) = cutGo 32 [] s.data.toList := splitB_cut s 32
theorem ws_tx {s : ByteArray} {l : List (List UInt8)} (h : cutGo 32 [] s.data.toList = l) : impl_parseStmt.wsOf s = l.map tx := by
  rw [← h, ← ws_cut, List.map_map]
  conv => lhs; rw [← List.map_id (impl_parseStmt.wsOf s)]
  apply List.map_congr_left
  intro x _
  exact (tx_back x).symm
theorem countB_cut (s : ByteArray) : Lib.countB s ⟨#[32]⟩ + 1 = (cutGo 32 [] s.data.toList).length := by
  rw [cut_len]
  congr 1
  exact Lib.count_one 32 s.data.toList
theorem atv_itoa (n : Int) (h0 : -8 ≤ n) (h1 : n ≤ 999) : impl_parseStmt.atv (tx (Lib.itoa n)) = n := by
  unfold impl_parseStmt.atv
  rw [tx_list, itoa_small n h0 h1]
theorem kind_kw (s : ByteArray) (c : Int) (hc : 1 ≤ c ∧ c ≤ 6) (r : List (List UInt8)) (h : cutGo 32 [] s.data.toList = kw c :: r) : impl_parseStmt.kindOf s = c := by
  unfold impl_parseStmt.kindOf
  rw [ws_tx h]
  rcases (show c = 1 ∨ c = 2 ∨ c = 3 ∨ c = 4 ∨ c = 5 ∨ c = 6 by omega) with rfl | rfl | rfl | rfl | rfl | rfl <;> rfl
/-- A statement's text is parsed by the program. -/
theorem ipar_good (s : ByteArray) (hs : s.size < 4294967281) (c z0 z1 z2 z3 : Int) (h : good s.data.toList (mkS c z0 z1 z2 z3) = true) (k : Nat) (hk : 20 ≤ k) : impl_parseStmt.f k s = some (ans (mkS c z0 z1 z2 z3)) := by
  have hg := good_cut h
  have hK : impl_parseStmt.kindOf s = c := by
    have := kind_kw s _ hg.1 _ hg.2.1
    rwa [mkS_kind] at this
  have hw := ws_tx hg.2.1
  have hcnt := countB_cut s
  rw [hg.2.1, List.length_cons, List.length_map] at hcnt
  have hc := hg.1
  rw [mkS_kind] at hc
  have ha := fun n hn => atv_itoa n (hg.2.2 n hn).1 (hg.2.2 n hn).2
  have hz : Lib.countB s ⟨#[32]⟩ = (impl_parseStmt.offs1 c ++ impl_parseStmt.offs2 c ++ impl_parseStmt.offs3 c).length ∧ mkS c (zat s 1) (zat s 2) (zat s 3) (zat s 4) = mkS c z0 z1 z2 z3 := by
    unfold zat
    rw [hw]
    rcases (show c = 1 ∨ c = 2 ∨ c = 3 ∨ c = 4 ∨ c = 5 ∨ c = 6 by omega) with rfl | rfl | rfl | rfl | rfl | rfl <;>
      simp [mkS, nums] at hcnt ha ⊢ <;> simp [impl_parseStmt.offs1, impl_parseStmt.offs2, impl_parseStmt.offs3, List.getD, hcnt, ha]
  rw [iparse s hs k hk, hK, hz.2, if_pos ⟨hz.1, h⟩]
theorem ipar_none (s : ByteArray) (hs : s.size < 4294967281) (h : ∀ c z0 z1 z2 z3, good s.data.toList (mkS c z0 z1 z2 z3) = false) (k : Nat) (hk : 20 ≤ k) : impl_parseStmt.f k s = some (0, 0, 0, 0, 0, 0, false) := by
  rw [iparse s hs k hk, if_neg (fun z => by rw [h] at z; exact Bool.false_ne_true z.2)]
theorem fieldsGo_len : ∀ (l cur : List UInt8), ∀ p ∈ Lib.fieldsGo cur l, p.length ≤ cur.length + l.length
  | [], cur => by
    intro p hp
    cases cur with
    | nil => simp [Lib.fieldsGo] at hp
    | cons c r => simp [Lib.fieldsGo] at hp; subst hp; simp
  | b :: l, cur => by
    intro p hp
    cases hs : Lib.isSp b with
    | true =>
      cases cur with
      | nil => rw [Lib.fieldsGo_sp b l hs] at hp; have := fieldsGo_len l [] p hp; simp at this ⊢; omega
      | cons c r =>
        rw [Lib.fieldsGo_end (c :: r) b l hs (by simp)] at hp
        rcases List.mem_cons.1 hp with e | hp
        · subst e; simp
        · have := fieldsGo_len l [] p hp; simp at this ⊢; omega
    | false =>
      rw [Lib.fieldsGo_more cur b l hs] at hp
      have := fieldsGo_len l (cur ++ [b]) p hp
      simp at this ⊢; omega
theorem spf_some {l : List UInt8} {ps : List (List UInt8)} (h : spf l = some ps) : ps.length ≤ 24 ∧ ∀ p ∈ ps, p.length ≤ 600 ∧ ∀ b ∈ p, b ≠ 32 := by
  unfold spf at h
  by_cases c : 600 < l.length ∨ l.any bad = true
  · rw [if_pos c] at h; cases h
  · rw [if_neg c] at h
    by_cases d : 24 < (Lib.fields l).length
    · rw [if_pos d] at h; cases h
    · rw [if_neg d] at h
      obtain rfl := Option.some.inj h
      have hb : ∀ b ∈ l, bad b = false := by
        intro b hb
        cases e : bad b with
        | false => rfl
        | true => exact absurd (Or.inr (List.any_eq_true.2 ⟨b, hb, e⟩)) c
      refine ⟨by omega, fun p hp => ⟨?_, fun b hbp => ?_⟩⟩
      · have := fieldsGo_len l [] p hp
        have hc : ¬ 600 < l.length := fun z => c (Or.inl z)
        simp at this; omega
      · have := (fieldsGo_good l [] hb (by simp) p hp).2 b hbp
        intro e; subst e
        rw [sp32] at this; exact Bool.noConfusion this.2
theorem words_len : ∀ (r : List (List UInt8)), (∀ p ∈ r, p.length ≤ 600) → (r.flatMap fun x => 32 :: x).length ≤ 601 * r.length
  | [], _ => by simp
  | p :: r, h => by
    have h1 := h p (by simp)
    have h2 := words_len r (fun q hq => h q (by simp [hq]))
    rw [List.flatMap_cons, List.length_append, List.length_cons, List.length_cons]; omega
/-- A valid statement is what its word and its numbers spell. -/
theorem sok_mkS {c v n o a b : Int} (h : sok c v n o a b = true) : ∃ z0 z1 z2 z3, (c, v, n, o, a, b) = mkS c z0 z1 z2 z3 := by
  rcases sok_kind h with rfl | rfl | rfl | rfl | rfl | rfl
  · refine ⟨v, o, a, b, ?_⟩; simp [sok] at h; simp [mkS, h]
  · refine ⟨v, n, 0, 0, ?_⟩; simp [sok, zok] at h; simp [mkS, h]
  · refine ⟨o, a, b, 0, ?_⟩; simp [sok] at h; simp [mkS, h]
  · refine ⟨o, a, b, 0, ?_⟩; simp [sok] at h; simp [mkS, h]
  · refine ⟨n, 0, 0, 0, ?_⟩; simp [sok, zok] at h; simp [mkS, h]
  · refine ⟨0, 0, 0, 0, ?_⟩; simp [sok, zok] at h; simp [mkS, h]
theorem fields_words : ∀ (r : List (List UInt8)) (w : List UInt8), (w ≠ [] ∧ ∀ b ∈ w, Lib.isSp b = false) → (∀ x ∈ r, x ≠ [] ∧ ∀ b ∈ x, Lib.isSp b = false) → Lib.fields (w ++ r.flatMap fun x => 32 :: x) = w :: r
  | [], w, hw, _ => by
    have h := fieldsGo_run w [] [] hw.2
    unfold Lib.fields
    rw [List.flatMap_nil, h, List.nil_append]
    cases w with
    | nil => exact absurd rfl hw.1
    | cons c r => rfl
  | x :: r, w, hw, hr => by
    have ih := fields_words r x (hr x (by simp)) (fun y hy => hr y (by simp [hy]))
    unfold Lib.fields at ih ⊢
    rw [List.flatMap_cons, List.cons_append, fieldsGo_run w [] _ hw.2, List.nil_append, Lib.fieldsGo_end w 32 _ sp32 hw.1, ih]
theorem fig_ok {b : UInt8} (h : (48 ≤ b.toNat ∧ b.toNat ≤ 57) ∨ b.toNat = 45 ∨ (97 ≤ b.toNat ∧ b.toNat ≤ 122)) : bad b = false ∧ Lib.isSp b = false := by
  have hb : bad b = false := by unfold bad; rw [decide_eq_false (by omega)]
  exact ⟨hb, by rw [isSp_ok hb]; exact decide_eq_false (by omega)⟩
theorem itoa_ok (n : Int) : Lib.itoa n ≠ [] ∧ ∀ b ∈ Lib.itoa n, bad b = false ∧ Lib.isSp b = false := by
  unfold Lib.itoa
  split
  · refine ⟨by simp, fun b hb => ?_⟩
    rcases List.mem_cons.1 hb with e | hb
    · subst e; exact fig_ok (Or.inr (Or.inl rfl))
    · exact fig_ok (Or.inl (dec_digit _ b hb))
  · exact ⟨dec_ne _, fun b hb => fig_ok (Or.inl (dec_digit _ b hb))⟩
theorem kw_ok (c : Int) : kw c ≠ [] ∧ ∀ b ∈ kw c, bad b = false ∧ Lib.isSp b = false := by
  unfold kw
  repeat' split
  all_goals exact ⟨by decide, by decide⟩
theorem canon_words (c v n o a b : Int) : canon c v n o a b = kw c ++ ((nums c v n o a b).map Lib.itoa).flatMap (fun x => 32 :: x) := by
  unfold canon
  rw [List.flatMap_map]; rfl
theorem canon_spf {c v n o a b : Int} (h : sok c v n o a b = true) : spf (canon c v n o a b) = some (kw c :: (nums c v n o a b).map Lib.itoa) := by
  have hf : Lib.fields (canon c v n o a b) = kw c :: (nums c v n o a b).map Lib.itoa := by
    rw [canon_words]
    refine fields_words _ _ ⟨(kw_ok c).1, fun b hb => ((kw_ok c).2 b hb).2⟩ ?_
    intro x hx
    obtain ⟨m, -, rfl⟩ := List.mem_map.1 hx
    exact ⟨(itoa_ok m).1, fun b hb => ((itoa_ok m).2 b hb).2⟩
  have hl := nums_len c v n o a b
  have hk := kw_len c
  have hs : ∀ (r : List Int), (∀ x ∈ r, -8 ≤ x ∧ x ≤ 999) → ((r.map Lib.itoa).flatMap (fun x => 32 :: x)).length ≤ 21 * r.length := by
    intro r
    induction r with
    | nil => intro _; simp
    | cons m r ih =>
      intro hm
      have h1 := hm m (by simp)
      have h2 := itoa_len (n := m) (by omega) (by omega)
      have h3 := ih (fun y hy => hm y (by simp [hy]))
      rw [List.map_cons, List.flatMap_cons, List.length_append, List.length_cons, List.length_cons]; omega
  have hlen : (canon c v n o a b).length ≤ 89 := by
    rw [canon_words, List.length_append]
    have := hs _ (nums_small h)
    omega
  have hbad : (canon c v n o a b).any bad = false := by
    rw [List.any_eq_false]
    intro x hx
    rw [canon_words] at hx
    rcases List.mem_append.1 hx with hx | hx
    · rw [((kw_ok c).2 x hx).1]; exact Bool.false_ne_true
    · obtain ⟨y, hy, hx⟩ := List.mem_flatMap.1 hx
      rcases List.mem_cons.1 hx with e | hx
      · subst e; decide
      · obtain ⟨m, -, rfl⟩ := List.mem_map.1 hy
        rw [((itoa_ok m).2 x hx).1]; exact Bool.false_ne_true
  unfold spf
  rw [if_neg (by rw [hbad]; simp; omega), hf, if_neg (by simp; omega)]
/-- A valid statement's text, parsed. -/
theorem parse_canon {c v n o a b : Int} (h : sok c v n o a b = true) (k : Nat) (hk : 20 ≤ k) : impl_ParseStmt.f k (tx (canon c v n o a b)) = some (c, v, n, o, a, b, true) := by
  have hs := canon_spf h
  have hback : ((kw c :: (nums c v n o a b).map Lib.itoa).map tx).map (·.data.toList) = kw c :: (nums c v n o a b).map Lib.itoa := by
    rw [List.map_map]
    conv => rhs; rw [← List.map_id (kw c :: (nums c v n o a b).map Lib.itoa)]
    rfl
  have hline : impl_ParseStmt.line ((kw c :: (nums c v n o a b).map Lib.itoa).map tx) = tx (canon c v n o a b) := by
    unfold impl_ParseStmt.line
    rw [hback, canon_words, ← join_words]
    rfl
  have hl := nums_len c v n o a b
  have hc : (canon c v n o a b).length ≤ 600 := by
    unfold spf at hs
    by_cases z : 600 < (canon c v n o a b).length ∨ (canon c v n o a b).any bad = true
    · rw [if_pos z] at hs; cases hs
    · have : ¬ 600 < (canon c v n o a b).length := fun q => z (Or.inl q)
      omega
  unfold impl_ParseStmt.f
  rw [ispl]
  unfold spr
  rw [tx_list, hs]
  simp only [Option.bind_some, if_true, hline]
  rw [if_pos ⟨by simp; omega, by rw [tx_size]; omega⟩]
  obtain ⟨z0, z1, z2, z3, e⟩ := sok_mkS h
  have hg : good (tx (canon c v n o a b)).data.toList (mkS c z0 z1 z2 z3) = true := by
    rw [← e, tx_list]
    unfold good
    simp [h]
  rw [ipar_good (tx (canon c v n o a b)) (by rw [tx_size]; omega) c z0 z1 z2 z3 hg k hk, ← e]
  rfl
theorem draw_stmt {l : List Int} (sz : (l.length : Int) ≤ 140737488351232) (k : Nat) (hk : l.length + 100 ≤ k) : ∃ c v n o a b, spec_DrawStmt.f k l = some (c, v, n, o, a, b) ∧ sok c v n o a b = true := by
  obtain ⟨g, eg⟩ := new_tells l sz
  obtain ⟨x, i1, g1, e1, ok1, x0, x1⟩ := below_tells g 5 (ok_start sz) (by omega)
  unfold spec_DrawStmt.f
  rw [eg k (by omega)]
  simp only [Option.bind_some]
  rw [e1]
  simp only [Option.bind_some]
  by_cases c0 : x = 0
  · rw [if_pos c0]
    obtain ⟨y, i2, g2, e2, ok2, y0, y1⟩ := below_tells g1 5 ok1 (by omega)
    rw [e2]
    simp only [Option.bind_some]
    refine ⟨_, _, _, _, _, _, rfl, ?_⟩
    rw [w64 (by omega) (by omega)]
    simp [sok, zok]; omega
  · rw [if_neg c0]
    by_cases c1 : x = 1
    · rw [if_pos c1]
      obtain ⟨o, a, b, i2, g2, e2, ok2, he⟩ := expr_in g1 ok1
      rw [e2]
      simp only [Option.bind_some]
      refine ⟨_, _, _, _, _, _, rfl, ?_⟩
      simp [sok, he]
    · rw [if_neg c1]
      obtain ⟨c, v, n, o, a, b, i2, g2, e2, ok2, hp⟩ := stmt_in g1 ok1 k (by omega)
      rw [e2]
      simp only [Option.bind_some]
      exact ⟨_, _, _, _, _, _, rfl, hp.1⟩
theorem FnStmtTexts : laws_FnStmtTexts.Pure := by
  intro l _ h2 _
  refine ⟨l.length + 200, ?_⟩
  unfold laws_FnStmtTexts.f laws_big.f
  simp only [Option.bind_some]
  by_cases c : (l.length : Int) > 1048576
  · rw [if_pos (decide_eq_true c)]
  · rw [if_neg (by simp; omega)]
    obtain ⟨c, v, n, o, a, b, ed, hs⟩ := draw_stmt (l := l) (by omega) (l.length + 200) (by omega)
    rw [ed]
    simp only [Option.bind_some]
    rw [iformat c v n o a b _ (by omega), if_pos hs]
    simp only [Option.bind_some]
    rw [parse_canon hs _ (by omega)]
    simp only [Option.bind_some]
    have hn : ¬ (tx (canon c v n o a b)).toList = ([] : List UInt8) := by
      rw [ByteArray.toList_eq]; exact canon_ne c v n o a b
    rw [if_neg hn, if_pos trivial, if_pos (by simp), istmt c v n o a b _ (by omega), hs]
    rfl

end Go.Proofs.YtcpmkcidehhbiaaDoor.Pure
