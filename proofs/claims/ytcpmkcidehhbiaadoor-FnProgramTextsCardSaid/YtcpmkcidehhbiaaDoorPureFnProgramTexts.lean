/- A drawn program's text is parsed back to a program with the same text and as many tasks, at every draw; the row's tables of the library hold what the card ties. -/
import Derived.Test.YtcpmkcidehhbiaaDoorPFnProgramTextsx10
import Derived.Laws.Concat
import Derived.Laws.Strings
import Derived.Lib.ItoaMem
import Derived.Lib.SplitLaws
import Derived.Lib.IndexBytes
import Derived.Lib.AtoiAllCases
import Derived.Lib.FieldsLaws
import Derived.Lib.Join
import Derived.Lib.SlicesS
namespace Go.Proofs.YtcpmkcidehhbiaaDoor.Pure
open Go.RowKit Go.Proofs.YtcpmkcidehhbiaaDoor.PFnProgramTexts Go.Proofs.YtcpmkcidehhbiaaDoorW.PrintWords Go.Proofs.YtcpmkcidehhbiaaDoorW.PrintLast
set_option linter.unusedVariables false
set_option linter.unusedSimpArgs false

theorem w64 {n : Int} (h1 : -9223372036854775808 ≤ n) (h2 : n ≤ 9223372036854775807) : wrap64 n = n := by unfold wrap64; omega
theorem w64_in (n : Int) : -9223372036854775808 ≤ wrap64 n ∧ wrap64 n ≤ 9223372036854775807 := by unfold wrap64; omega
theorem wf64 {n : Int} (h : (Lit.int .i64 n).wf = true) : -9223372036854775808 ≤ n ∧ n ≤ 9223372036854775807 := by
  simp only [Lit.wf, IntKind.min, IntKind.max, IntKind.signed, IntKind.bits, Bool.and_eq_true, decide_eq_true_eq, if_true] at h
  omega
theorem wfu8 {n : Int} (h : (Lit.int .u8 n).wf = true) : 0 ≤ n ∧ n ≤ 255 := by
  simp [Lit.wf, IntKind.min, IntKind.max, IntKind.signed, IntKind.bits] at h
  omega
theorem and_in (x : Int) (m : Nat) (hm : m < 9223372036854775808) : 0 ≤ Go.bits .and .i64 x (m : Int) ∧ Go.bits .and .i64 x (m : Int) ≤ m := by
  have h1 : (BitVec.ofInt 64 x &&& BitVec.ofInt 64 (m : Int)).toNat ≤ m := by
    rw [BitVec.toNat_and]
    refine Nat.le_trans Nat.and_le_right ?_
    rw [BitVec.ofInt_natCast, BitVec.toNat_ofNat]
    exact Nat.mod_le _ _
  have h2 : Go.bits .and .i64 x (m : Int) = IntKind.i64.wrap (((BitVec.ofInt 64 x &&& BitVec.ofInt 64 (m : Int)).toNat : Nat) : Int) := rfl
  rw [h2, Go.IntKind.wrap_i64]
  omega
theorem and255 (x : Int) : 0 ≤ Go.bits .and .i64 x 255 ∧ Go.bits .and .i64 x 255 ≤ 255 := and_in x 255 (by decide)
theorem tmod_in (x n : Int) (h0 : 0 ≤ x) (h : 1 ≤ n) : 0 ≤ Int.tmod x n ∧ Int.tmod x n < n := ⟨Int.tmod_nonneg _ h0, Int.tmod_lt_of_pos _ (by omega)⟩
/-- A text out of its bytes. -/
def tx (l : List UInt8) : ByteArray := ⟨l.toArray⟩
theorem tx_size (l : List UInt8) : (tx l).size = l.length := by simp [tx, ByteArray.size]
theorem tx_list (l : List UInt8) : (tx l).data.toList = l := rfl
theorem tx_app (a b : List UInt8) : tx a ++ tx b = tx (a ++ b) := by unfold tx; exact ByteArray.mk_append_mk _ _
theorem tx_back (s : ByteArray) : tx s.data.toList = s := by cases s; simp [tx]
theorem size_tl (s : ByteArray) : s.size = s.data.toList.length := (Array.length_toList).symm
theorem tl_eq (a b : ByteArray) : a.toList = b.toList ↔ a.data.toList = b.data.toList := by rw [ByteArray.toList_eq, ByteArray.toList_eq]
theorem tx_inj (a b : List UInt8) : tx a = tx b ↔ a = b := by
  constructor
  · intro h
    have := congrArg (fun s : ByteArray => s.data.toList) h
    simpa [tx] using this
  · rintro rfl; rfl
theorem bt_tx (s : ByteArray) (pre : List UInt8) (c : UInt8) (u : List UInt8) (h : s.data.toList = pre ++ c :: u) : bt s (pre.length : Int) = (c.toNat : Int) := by
  have hl : s.data.toList.length = pre.length + (u.length + 1) := by rw [h]; simp
  have hz : pre.length < s.size := by have := size_tl s; omega
  unfold bt
  rw [dif_pos (by simpa using hz)]
  have e : s[((pre.length : Nat) : Int).toNat]'(by simpa using hz) = s.data.toList[pre.length]'(by omega) := by simp [ByteArray.getElem_eq_getElem_data]
  rw [e]
  have e2 : s.data.toList[pre.length]'(by omega) = c := by simp only [h]; simp
  rw [e2]
theorem nd_le : ∀ (k u : Nat), u < 10 ^ (k + 1) → Lib.nDigits u ≤ k + 1 := by
  intro k
  induction k with
  | zero => intro u hu; rw [Lib.nDigits_small (by simpa using hu)]; omega
  | succ k ih =>
    intro u hu
    by_cases c : u < 10
    · rw [Lib.nDigits_small c]; omega
    · rw [Lib.nDigits_big c]
      have := ih (u / 10) (by rw [Nat.pow_succ] at hu; omega)
      omega
theorem itoa_len {n : Int} (h0 : -9223372036854775808 ≤ n) (h1 : n ≤ 9223372036854775807) : (Lib.itoa n).length ≤ 20 := by
  have hp : (9223372036854775808 : Nat) < 10 ^ 19 := by decide
  unfold Lib.itoa
  split
  · rw [List.length_cons, Lib.decDigits_length]
    have := nd_le 18 n.natAbs (by show n.natAbs < 10 ^ 19; omega)
    omega
  · rw [Lib.decDigits_length]
    have := nd_le 18 n.toNat (by show n.toNat < 10 ^ 19; omega)
    omega
theorem ifmt (n : Int) (h0 : -9223372036854775808 ≤ n) (h1 : n ≤ 9223372036854775807) : impl_FormatInt.f n = some ⟨(Lib.itoa n).toArray⟩ := by
  unfold impl_FormatInt.f
  rw [if_pos ⟨h0, h1⟩]
theorem within_eq (a b c : Int) : impl_within.f a b c = some (decide (b ≤ a ∧ a ≤ c)) := by
  unfold impl_within.f
  by_cases h : a ≥ b
  · rw [if_pos h]; simp; omega
  · rw [if_neg h]; simp; omega
/-- The place of a cursor lies in its bytes. -/
structure OkC (l : List Int) (i : Int) : Prop where
  lo : 0 ≤ i
  hi : i ≤ l.length
  sz : (l.length : Int) ≤ 140737488351232
theorem byte_tells {l : List Int} {i : Int} (h : Int) (ok : OkC l i) : ∃ x i' h', spec_l01Byte.f l i h = some (x, i', h') ∧ OkC l i' ∧ 0 ≤ x ∧ x ≤ 255 := by
  obtain ⟨lo, hi, sz⟩ := ok
  unfold spec_l01Byte.f
  by_cases h1 : i < (l.length : Int)
  · rw [if_pos h1, if_pos lo]
    refine ⟨_, _, _, rfl, ?_, and255 _⟩
    rw [w64 (by omega) (by omega)]
    exact ⟨by omega, by omega, sz⟩
  · rw [if_neg h1]
    exact ⟨_, _, _, rfl, ⟨lo, hi, sz⟩, and255 _⟩
theorem below_tells {l : List Int} {i : Int} (h n : Int) (ok : OkC l i) (hn : 1 ≤ n) : ∃ x i' h', spec_l01Below.f l i h n = some (x, i', h') ∧ OkC l i' ∧ 0 ≤ x ∧ x < n := by
  unfold spec_l01Below.f
  rw [if_neg (by omega)]
  by_cases h1 : n ≤ 256
  · rw [if_pos h1]
    obtain ⟨x, i1, g1, e1, ok1, x0, x1⟩ := byte_tells h ok
    rw [e1]
    simp only [Option.bind_some]
    rw [if_neg (by omega)]
    exact ⟨_, _, _, rfl, ok1, tmod_in _ _ x0 hn⟩
  · rw [if_neg h1]
    obtain ⟨x, i1, g1, e1, ok1, x0, x1⟩ := byte_tells h ok
    obtain ⟨y, i2, g2, e2, ok2, y0, y1⟩ := byte_tells g1 ok1
    obtain ⟨z, i3, g3, e3, ok3, z0, z1⟩ := byte_tells g2 ok2
    obtain ⟨v, i4, g4, e4, ok4, v0, v1⟩ := byte_tells g3 ok3
    rw [e1]; simp only [Option.bind_some]
    rw [e2]; simp only [Option.bind_some]
    rw [e3]; simp only [Option.bind_some]
    rw [e4]; simp only [Option.bind_some]
    rw [if_neg (by omega)]
    refine ⟨_, _, _, rfl, ok4, tmod_in _ _ ?_ hn⟩
    rw [w64 (n := x * 16777216) (by omega) (by omega), w64 (n := y * 65536) (by omega) (by omega), w64 (n := z * 256) (by omega) (by omega)]
    rw [w64 (n := x * 16777216 + y * 65536) (by omega) (by omega), w64 (n := x * 16777216 + y * 65536 + z * 256) (by omega) (by omega)]
    rw [w64 (by omega) (by omega)]
    omega
theorem once_tells {l : List Int} {i : Int} (h n : Int) (ok : OkC l i) (hn : 1 ≤ n) : ∃ x i' h', spec_l01Once.f l i h n = some (x, i', h') ∧ OkC l i' := by
  obtain ⟨x, i1, g1, e1, ok1, _⟩ := below_tells h n ok hn
  unfold spec_l01Once.f
  rw [e1]
  exact ⟨_, _, _, rfl, ok1⟩
theorem rd_mem (xs : List Int) (i : Int) (h0 : 0 ≤ i) (h1 : i < (xs.length : Int)) : rd xs i ∈ xs := by
  have h : i.toNat < xs.length := by omega
  unfold Go.Proofs.YtcpmkcidehhbiaaDoorW.PrintWords.rd
  rw [List.getD_eq_getElem?_getD, List.getElem?_eq_getElem h]
  exact List.getElem_mem h
theorem pick_tells {l : List Int} {i : Int} (h : Int) (xs : List Int) (ok : OkC l i) (hn : 1 ≤ xs.length) : ∃ x i' h', spec_l01PickInt.f l i h xs = some (x, i', h') ∧ OkC l i' ∧ x ∈ xs := by
  obtain ⟨x, i1, g1, e1, ok1, x0, x1⟩ := below_tells h (xs.length : Int) ok (by omega)
  unfold spec_l01PickInt.f
  rw [e1]
  simp only [Option.bind_some]
  rw [if_pos x0, if_pos x1]
  exact ⟨_, _, _, rfl, ok1, rd_mem xs x x0 x1⟩
theorem new_loop (l : List Int) (sz : (l.length : Int) ≤ 140737488351232) (d : Nat) : ∀ (k : Nat) (h i : Int), 0 ≤ i → i ≤ l.length → (l.length : Int) - i = d → d < k → ∃ g, spec_l01New.l0 k l h i = some (l, 0, g) := by
  induction d with
  | zero =>
    intro k h i h0 h1 hd hk
    obtain ⟨k, rfl⟩ : ∃ m, k = m + 1 := ⟨k - 1, by omega⟩
    exact ⟨h, by simp only [spec_l01New.l0]; rw [if_neg (by omega)]⟩
  | succ d ih =>
    intro k h i h0 h1 hd hk
    obtain ⟨k, rfl⟩ : ∃ m, k = m + 1 := ⟨k - 1, by omega⟩
    simp only [spec_l01New.l0]
    rw [if_pos (by omega)]
    by_cases c : i < 4000
    · rw [if_pos c, if_pos h0, w64 (n := i + 1) (by omega) (by omega)]
      exact ih k _ (i + 1) (by omega) (by omega) (by omega) (by omega)
    · rw [if_neg c]; exact ⟨h, rfl⟩
theorem new_tells (l : List Int) (sz : (l.length : Int) ≤ 140737488351232) : ∃ g, ∀ k, l.length < k → spec_l01New.f k l = some (l, 0, g) := by
  obtain ⟨g, e⟩ := new_loop l sz l.length (l.length + 1) (wrap64 (98347 + (l.length : Int))) 0 (by omega) (by omega) (by omega) (by omega)
  exact ⟨g, fun k hk => at_rounds (fun k => spec_l01New.mono l k) (by omega : l.length + 1 ≤ k) e⟩
theorem ok_start {l : List Int} (sz : (l.length : Int) ≤ 140737488351232) : OkC l 0 := ⟨by omega, by omega, sz⟩
/-- A valid expression. -/
def eok (o a b : Int) : Bool := decide (1 ≤ o ∧ o ≤ 7) && (decide (-8 ≤ a ∧ a ≤ 999) && decide (-8 ≤ b ∧ b ≤ 999))
theorem iexpr (o a b : Int) : impl_ExprOk.f o a b = some (eok o a b) := by
  unfold impl_ExprOk.f impl_OperandOk.f eok
  simp only [within_eq, Option.bind_some]
  cases decide (1 ≤ o ∧ o ≤ 7) <;> cases decide (-8 ≤ a ∧ a ≤ 999) <;> simp
theorem eok_in {o a b : Int} (h : eok o a b = true) : (1 ≤ o ∧ o ≤ 7) ∧ (-8 ≤ a ∧ a ≤ 999) ∧ (-8 ≤ b ∧ b ≤ 999) := by
  unfold eok at h
  simp only [Bool.and_eq_true, decide_eq_true_eq] at h
  exact h
/-- A valid statement. -/
def zok (o a b : Int) : Bool := decide (o = 0) && (decide (a = 0) && decide (b = 0))
def sok (c v n o a b : Int) : Bool :=
  if c = 1 then decide (0 ≤ v ∧ v ≤ 7) && (decide (n = 0) && eok o a b)
  else if c = 2 then decide (0 ≤ v ∧ v ≤ 7) && (decide (0 ≤ n ∧ n ≤ 3) && zok o a b)
  else if c = 3 then decide (v = 0) && (decide (n = 0) && eok o a b)
  else if c = 4 then decide (v = 0) && (decide (n = 0) && eok o a b)
  else if c = 5 then decide (v = 0) && (decide (1 ≤ n ∧ n ≤ 5) && zok o a b)
  else if c = 6 then decide (v = 0) && (decide (n = 0) && zok o a b)
  else false
theorem hasVar_eq (c : Int) : impl_hasVar.f c = some (decide (c = 1 ∨ c = 2)) := by
  unfold impl_hasVar.f
  by_cases h : c = 1
  · rw [if_pos h]; simp [h]
  · rw [if_neg h]; simp [h]; rfl
theorem hasExpr_eq (c : Int) : impl_hasExpr.f c = some (decide (c = 1 ∨ c = 3 ∨ c = 4)) := by
  unfold impl_hasExpr.f
  by_cases h : c = 1
  · rw [if_pos h]; simp [h]
  · rw [if_neg h]
    by_cases h2 : c = 3
    · rw [if_pos h2]; simp [h2]
    · rw [if_neg h2]; simp [h, h2]; rfl
theorem isVar_eq (v : Int) : impl_isVar.f v = some (decide (0 ≤ v ∧ v ≤ 7)) := by
  unfold impl_isVar.f; rw [within_eq]; rfl
theorem isSensor_eq (v : Int) : impl_isSensor.f v = some (decide (0 ≤ v ∧ v ≤ 3)) := by
  unfold impl_isSensor.f; rw [within_eq]; rfl
theorem istmt (c v n o a b : Int) (k : Nat) (hk : 2 ≤ k) : impl_StmtOk.f k c v n o a b = some (sok c v n o a b) := by
  obtain ⟨k, rfl⟩ : ∃ m, k = m + 2 := ⟨k - 2, by omega⟩
  unfold impl_StmtOk.f sok zok
  simp only [within_eq, hasVar_eq, isVar_eq, hasExpr_eq, isSensor_eq, iexpr, Option.bind_some, impl_StmtOk.j0, impl_StmtOk.j1]
  by_cases h1 : c = 1
  · subst h1
    cases decide (0 ≤ v ∧ v ≤ 7) <;> cases eok o a b <;> by_cases hn : n = 0 <;> simp [hn]
  · by_cases h2 : c = 2
    · subst h2
      cases decide (0 ≤ v ∧ v ≤ 7) <;> cases decide (0 ≤ n ∧ n ≤ 3) <;> by_cases ho : o = 0 <;> by_cases ha : a = 0 <;> by_cases hb : b = 0 <;> simp [ho, ha, hb]
    · by_cases h3 : c = 3
      · subst h3
        cases eok o a b <;> by_cases hn : n = 0 <;> by_cases hv : v = 0 <;> simp [hn, hv]
      · by_cases h4 : c = 4
        · subst h4
          cases eok o a b <;> by_cases hn : n = 0 <;> by_cases hv : v = 0 <;> simp [hn, hv]
        · by_cases h5 : c = 5
          · subst h5
            cases decide (1 ≤ n ∧ n ≤ 5) <;> by_cases hv : v = 0 <;> by_cases ho : o = 0 <;> by_cases ha : a = 0 <;> by_cases hb : b = 0 <;> simp [hv, ho, ha, hb]
          · by_cases h6 : c = 6
            · subst h6
              by_cases hn : n = 0 <;> by_cases hv : v = 0 <;> by_cases ho : o = 0 <;> by_cases ha : a = 0 <;> by_cases hb : b = 0 <;> simp [hn, hv, ho, ha, hb]
            · have hw : ¬ (1 ≤ c ∧ c ≤ 6) := by omega
              simp [h1, h2, h3, h4, h5, h6, hw]
theorem rd_app (pre : List S27) (a : S27) (t : List S27) : rd_T27 (pre ++ a :: t) (pre.length : Int) = a := by
  unfold rd_T27
  simp [List.getD]
def okS (s : S27) : Bool := sok s.f0 s.f1 s.f2 s.f3.f0 s.f3.f1 s.f3.f2
def opn (s : S27) : Bool := decide (s.f0 = 4 ∨ s.f0 = 5)
def del (s : S27) : Int := if s.f0 = 4 ∨ s.f0 = 5 then 1 else if s.f0 = 6 then -1 else 0
theorem del_in (s : S27) : -1 ≤ del s ∧ del s ≤ 1 := by unfold del; split <;> (try split) <;> omega
def scan : List S27 → Int → Option Int
  | [], d => some d
  | s :: t, d => if okS s = true then (if 0 ≤ d + del s ∧ d + del s ≤ 3 then scan t (d + del s) else none) else none
def fin (o : Option Int) (n : Nat) : Bool := decide (o = some 0) && decide (n ≤ 24)
/-- Whether the statements are a valid block. -/
def blk (l : List S27) : Bool := fin (scan l 0) l.length
theorem opening_eq (c : Int) : impl_isOpening.f c = some (decide (c = 4 ∨ c = 5)) := by
  unfold impl_isOpening.f
  by_cases h : c = 4
  · simp [h]
  · rw [if_neg h]; congr 1; rw [Bool.eq_iff_iff]; simp [h]
theorem iscan (suf : List S27) : ∀ (k : Nat) (pre x : List S27) (d : Int), x = pre ++ suf → x.length ≤ 140737488351232 → 2 * suf.length + 4 ≤ k → 0 ≤ d → d ≤ 3 →
    impl_BlockOk.l0 k x d x (x.length : Int) (pre.length : Int) = some (fin (scan suf d) x.length) := by
  induction suf with
  | nil =>
    intro k pre x d hx hz hk d0 d1
    obtain ⟨k, rfl⟩ : ∃ m, k = m + 1 := ⟨k - 1, by omega⟩
    have hl : x.length = pre.length := by simp [hx]
    unfold impl_BlockOk.l0
    rw [if_neg (by omega)]
    unfold scan fin
    by_cases c : d = 0
    · rw [if_pos c, c]; congr 1; simp; omega
    · rw [if_neg c]; simp [c]
  | cons a t ih =>
    intro k pre x d hx hz hk d0 d1
    simp only [List.length_cons] at hk
    obtain ⟨k, rfl⟩ : ∃ m, k = m + 2 := ⟨k - 2, by omega⟩
    have hl : x.length = pre.length + (t.length + 1) := by simp [hx]
    have hr : rd_T27 x (pre.length : Int) = a := by rw [hx]; exact rd_app pre a t
    have hn : ((pre.length : Int) + 1) = (((pre ++ [a]).length : Nat) : Int) := by simp
    unfold impl_BlockOk.l0
    rw [if_pos (by omega), if_pos (by omega), if_pos (by omega)]
    simp only [hr]
    rw [istmt _ _ _ _ _ _ _ (by omega)]
    simp only [Option.bind_some]
    have hs : ∀ e, scan (a :: t) e = if okS a = true then (if 0 ≤ e + del a ∧ e + del a ≤ 3 then scan t (e + del a) else none) else none := fun e => rfl
    rw [hs]
    by_cases ok : okS a = true
    · rw [if_pos ok]
      unfold okS at ok
      rw [if_pos ok, opening_eq]
      simp only [Option.bind_some, decide_eq_true_eq]
      have step : ∀ e : Int, 0 ≤ e → e ≤ 3 → impl_BlockOk.l0 k x e x (x.length : Int) (wrap64 ((pre.length : Int) + 1)) = some (fin (scan t e) x.length) := by
        intro e e0 e1
        rw [w64 (by omega) (by omega), hn]
        exact ih k (pre ++ [a]) x e (by simp [hx]) hz (by omega) e0 e1
      by_cases o : a.f0 = 4 ∨ a.f0 = 5
      · have hd : del a = 1 := by unfold del; rw [if_pos o]
        rw [if_pos o, hd, w64 (n := d + 1) (by omega) (by omega)]
        unfold impl_BlockOk.j1
        rw [if_neg (by omega), if_neg (by omega)]
        by_cases c : d + 1 > 3
        · rw [if_pos c, if_neg (by omega)]; simp [fin]
        · rw [if_neg c, if_pos (by omega)]
          exact step _ (by omega) (by omega)
      · rw [if_neg o]
        unfold impl_BlockOk.j1
        by_cases c6 : a.f0 = 6
        · have hd : del a = -1 := by unfold del; rw [if_neg o, if_pos c6]
          rw [if_pos c6, hd, w64 (n := d - 1) (by omega) (by omega)]
          by_cases c : d - 1 < 0
          · rw [if_pos c, if_neg (by omega)]; simp [fin]
          · rw [if_neg c, if_neg (by omega), if_pos (by omega)]
            exact step _ (by omega) (by omega)
        · have hd : del a = 0 := by unfold del; rw [if_neg o, if_neg c6]
          rw [if_neg c6, hd, if_neg (by omega), if_neg (by omega), if_pos (by omega), show d + 0 = d by omega]
          exact step _ (by omega) (by omega)
    · rw [if_neg ok]
      unfold okS at ok
      rw [if_neg ok]
      simp [fin]
theorem iblock (l : List S27) (hz : l.length ≤ 140737488351232) (k : Nat) (hk : 2 * l.length + 4 ≤ k) : impl_BlockOk.f k l = some (blk l) :=
  iscan l k [] l 0 rfl hz hk (by omega) (by omega)
theorem operand_in {l : List Int} {i : Int} (h : Int) (ok : OkC l i) : ∃ x i' h', spec_l03Operand.f l i h = some (x, i', h') ∧ OkC l i' ∧ -8 ≤ x ∧ x ≤ 999 := by
  unfold spec_l03Operand.f
  obtain ⟨b, i1, g1, e1, ok1⟩ := once_tells h 2 ok (by omega)
  rw [e1]
  simp only [Option.bind_some]
  by_cases c : b = true
  · rw [if_pos c]
    obtain ⟨x, i2, g2, e2, ok2, x0, x1⟩ := below_tells g1 5 ok1 (by omega)
    rw [e2]
    simp only [Option.bind_some]
    rw [w64 (by omega) (by omega)]
    exact ⟨_, _, _, rfl, ok2, by omega, by omega⟩
  · rw [if_neg c]
    obtain ⟨x, i2, g2, e2, ok2, hx⟩ := pick_tells g1 [0, 1, 2, 3, 10, 999] ok1 (by decide)
    rw [e2]
    simp only [Option.bind_some]
    refine ⟨_, _, _, rfl, ok2, ?_⟩
    simp only [List.mem_cons, List.not_mem_nil, or_false] at hx
    omega
theorem expr_in {l : List Int} {i : Int} (h : Int) (ok : OkC l i) : ∃ o a b i' h', spec_l03Expr.f l i h = some (o, a, b, i', h') ∧ OkC l i' ∧ eok o a b = true := by
  unfold spec_l03Expr.f
  obtain ⟨x, i1, g1, e1, ok1, x0, x1⟩ := below_tells h 7 ok (by omega)
  obtain ⟨a, i2, g2, e2, ok2, a0, a1⟩ := operand_in g1 ok1
  obtain ⟨b, i3, g3, e3, ok3, b0, b1⟩ := operand_in g2 ok2
  rw [e1]
  simp only [Option.bind_some]
  rw [e2]
  simp only [Option.bind_some]
  rw [e3]
  simp only [Option.bind_some]
  rw [w64 (by omega) (by omega)]
  refine ⟨_, _, _, _, _, rfl, ok3, ?_⟩
  unfold eok
  simp
  omega
/-- A valid statement that neither opens nor closes. -/
def plain (c v n o a b : Int) : Prop := sok c v n o a b = true ∧ c ≠ 4 ∧ c ≠ 5 ∧ c ≠ 6
theorem stmt_in {l : List Int} {i : Int} (h : Int) (ok : OkC l i) (k : Nat) (hk : 1 ≤ k) : ∃ c v n o a b i' h', spec_l04Stmt.f k l i h = some (c, v, n, o, a, b, i', h') ∧ OkC l i' ∧ plain c v n o a b := by
  obtain ⟨k, rfl⟩ : ∃ m, k = m + 1 := ⟨k - 1, by omega⟩
  have hj : ∀ (x : Int) (f : Bool) (i1 g1 : Int), OkC l i1 → ∃ c v n o a b i' h', spec_l04Stmt.j0 (k + 1) x f l i1 g1 = some (c, v, n, o, a, b, i', h') ∧ OkC l i' ∧ plain c v n o a b := by
    intro x f i1 g1 ok1
    simp only [spec_l04Stmt.j0]
    by_cases cf : f = true
    · rw [if_pos cf]
      obtain ⟨v, i2, g2, e2, ok2, v0, v1⟩ := below_tells g1 5 ok1 (by omega)
      obtain ⟨n, i3, g3, e3, ok3, n0, n1⟩ := below_tells g2 4 ok2 (by omega)
      rw [e2]
      simp only [Option.bind_some]
      rw [e3]
      simp only [Option.bind_some]
      refine ⟨_, _, _, _, _, _, _, _, rfl, ok3, ?_, by omega, by omega, by omega⟩
      unfold sok zok
      simp
      omega
    · rw [if_neg cf]
      by_cases c2 : x = 2
      · rw [if_pos c2]
        obtain ⟨o, a, b, i2, g2, e2, ok2, he⟩ := expr_in g1 ok1
        rw [e2]
        simp only [Option.bind_some]
        refine ⟨_, _, _, _, _, _, _, _, rfl, ok2, ?_, by omega, by omega, by omega⟩
        unfold sok
        simp [he]
      · rw [if_neg c2]
        obtain ⟨v, i2, g2, e2, ok2, v0, v1⟩ := below_tells g1 5 ok1 (by omega)
        obtain ⟨o, a, b, i3, g3, e3, ok3, he⟩ := expr_in g2 ok2
        rw [e2]
        simp only [Option.bind_some]
        rw [e3]
        simp only [Option.bind_some]
        refine ⟨_, _, _, _, _, _, _, _, rfl, ok3, ?_, by omega, by omega, by omega⟩
        unfold sok
        simp [he]
        omega
  unfold spec_l04Stmt.f
  obtain ⟨x, i1, g1, e1, ok1, x0, x1⟩ := below_tells h 7 ok (by omega)
  rw [e1]
  simp only [Option.bind_some]
  by_cases c : x = 0
  · rw [if_pos c]; exact hj _ _ _ _ ok1
  · rw [if_neg c]; exact hj _ _ _ _ ok1
/-- Statements that may lie in any block, m levels of opening high. -/
def Good (b : List S27) (m : Int) : Prop := ∀ (r : List S27) (d : Int), 0 ≤ d → d + m ≤ 3 → scan (b ++ r) d = scan r d
theorem good_nil (m : Int) : Good [] m := fun r d _ _ => rfl
theorem good_app {b c : List S27} {m : Int} (hb : Good b m) (hc : Good c m) : Good (b ++ c) m := by
  intro r d h0 h1
  rw [List.append_assoc, hb _ d h0 h1, hc r d h0 h1]
theorem scan_cons (s : S27) (t : List S27) (d : Int) : scan (s :: t) d = if okS s = true then (if 0 ≤ d + del s ∧ d + del s ≤ 3 then scan t (d + del s) else none) else none := rfl
theorem good_plain {c v n o a b : Int} (h : plain c v n o a b) {m : Int} (hm : 0 ≤ m) : Good [(⟨c, v, n, ⟨o, a, b⟩⟩ : S27)] m := by
  intro r d h0 h1
  obtain ⟨h2, h3, h4, h5⟩ := h
  have hd : del (⟨c, v, n, ⟨o, a, b⟩⟩ : S27) = 0 := by unfold del; simp [h3, h4, h5]
  have ho : okS (⟨c, v, n, ⟨o, a, b⟩⟩ : S27) = true := h2
  show scan ((⟨c, v, n, ⟨o, a, b⟩⟩ : S27) :: r) d = scan r d
  rw [scan_cons, if_pos ho, hd, if_pos (by omega), show d + 0 = d by omega]
theorem good_wrap {c v n o a b : Int} (h : sok c v n o a b = true) (h4 : c = 4 ∨ c = 5) {q : List S27} {m : Int} (hm : 0 ≤ m) (hq : Good q m) : Good ((⟨c, v, n, ⟨o, a, b⟩⟩ : S27) :: (q ++ [(⟨6, 0, 0, ⟨0, 0, 0⟩⟩ : S27)])) (m + 1) := by
  intro r d h0 h1
  have hd : del (⟨c, v, n, ⟨o, a, b⟩⟩ : S27) = 1 := by unfold del; rw [if_pos h4]
  have ho : okS (⟨c, v, n, ⟨o, a, b⟩⟩ : S27) = true := h
  have hd2 : del (⟨6, 0, 0, ⟨0, 0, 0⟩⟩ : S27) = -1 := by decide
  have ho2 : okS (⟨6, 0, 0, ⟨0, 0, 0⟩⟩ : S27) = true := by decide
  show scan ((⟨c, v, n, ⟨o, a, b⟩⟩ : S27) :: ((q ++ [(⟨6, 0, 0, ⟨0, 0, 0⟩⟩ : S27)]) ++ r)) d = scan r d
  rw [scan_cons, if_pos ho, hd, if_pos (by omega), List.append_assoc, hq _ _ (by omega) (by omega)]
  show scan ((⟨6, 0, 0, ⟨0, 0, 0⟩⟩ : S27) :: r) (d + 1) = scan r d
  rw [scan_cons, if_pos ho2, hd2, if_pos (by omega), show d + 1 + -1 = d by omega]
/-- How long a block may be behind i draws, h levels below the innermost. -/
def cap (h : Nat) (i : Int) : Int := if h = 0 then i else if h = 1 then 4 * i else 15 + i
theorem block_in {l : List Int} (h : Nat) : h ≤ 2 → ∀ (k : Nat) (i g n : Int), OkC l i → 0 ≤ n → n ≤ (if h = 2 then 5 else 2) → 2 * n + 6 + 5 * h ≤ k → ∃ b i' g', spec_l05Block.f k l i g n (2 - (h : Int)) = some (b, i', g') ∧ OkC l i' ∧ Good b h ∧ (b.length : Int) ≤ cap h n := by
  induction h with
  | zero =>
    intro _ k i g n ok n0 n1 hk
    simp only [Nat.zero_ne_add_one, if_false] at n1
    have hl : ∀ (d : Nat) (k : Nat) (x : List S27) (j i g : Int), OkC l i → 0 ≤ j → n - j = d → 2 * (d : Int) + 5 ≤ k → Good x ((0 : Nat) : Int) → (x.length : Int) ≤ j → ∃ b i' g', spec_l05Block.l0 k n (2 - ((0 : Nat) : Int)) x j l i g = some (b, i', g') ∧ OkC l i' ∧ Good b ((0 : Nat) : Int) ∧ (b.length : Int) ≤ n := by
      intro d
      induction d with
      | zero =>
        intro k x j i g ok j0 hd hk hg hx
        obtain ⟨k, rfl⟩ : ∃ m, k = m + 1 := ⟨k - 1, by omega⟩
        simp only [spec_l05Block.l0]
        rw [if_neg (by omega)]
        exact ⟨_, _, _, rfl, ok, hg, by omega⟩
      | succ d ih =>
        intro k x j i g ok j0 hd hk hg hx
        obtain ⟨k, rfl⟩ : ∃ m, k = m + 2 := ⟨k - 2, by omega⟩
        obtain ⟨c, v, q, o, a, b, i1, g1, e1, ok1, hp⟩ := stmt_in g ok k (by omega)
        simp only [spec_l05Block.l0]
        rw [if_pos (by omega), if_neg (by omega)]
        simp only [spec_l05Block.j1, Bool.false_eq_true, if_false]
        rw [e1]
        simp only [Option.bind_some]
        rw [if_pos (by omega), w64 (n := j + 1) (by omega) (by omega)]
        exact ih k _ (j + 1) i1 g1 ok1 (by omega) (by omega) (by omega) (good_app hg (good_plain hp (by omega))) (by simp; omega)
    obtain ⟨k, rfl⟩ : ∃ m, k = m + 1 := ⟨k - 1, by omega⟩
    unfold spec_l05Block.f
    obtain ⟨b, i', g', e, ok', hg, hb⟩ := hl n.toNat k [] 0 i g ok (by omega) (by omega) (by omega) (good_nil _) (by simp)
    exact ⟨b, i', g', e, ok', hg, by unfold cap; rw [if_pos rfl]; exact hb⟩
  | succ h ihh =>
    intro hh k i g n ok n0 n1 hk
    have n5 : n ≤ 5 := by revert n1; split <;> omega
    have hl : ∀ (d : Nat) (k : Nat) (x : List S27) (j i g : Int), OkC l i → 0 ≤ j → n - j = d → 2 * (d : Int) + 5 + 5 * ((h : Int) + 1) ≤ k → Good x ((h + 1 : Nat) : Int) → (x.length : Int) ≤ cap (h + 1) j → ∃ b i' g', spec_l05Block.l0 k n (2 - ((h + 1 : Nat) : Int)) x j l i g = some (b, i', g') ∧ OkC l i' ∧ Good b ((h + 1 : Nat) : Int) ∧ (b.length : Int) ≤ cap (h + 1) n := by
      intro d
      induction d with
      | zero =>
        intro k x j i g ok j0 hd hk hg hx
        obtain ⟨k, rfl⟩ : ∃ m, k = m + 1 := ⟨k - 1, by omega⟩
        have e : j = n := by omega
        subst e
        simp only [spec_l05Block.l0]
        rw [if_neg (by omega)]
        exact ⟨_, _, _, rfl, ok, hg, hx⟩
      | succ d ih =>
        intro k x j i g ok j0 hd hk hg hx
        obtain ⟨k, rfl⟩ : ∃ m, k = m + 2 := ⟨k - 2, by omega⟩
        have xb : (x.length : Int) ≤ 100 := by revert hx; unfold cap; split <;> (try split) <;> omega
        have hplain : ∀ i g, OkC l i → ∃ b i' g', spec_l05Block.j1 (k + 1) n (2 - ((h + 1 : Nat) : Int)) x j false l i g = some (b, i', g') ∧ OkC l i' ∧ Good b ((h + 1 : Nat) : Int) ∧ (b.length : Int) ≤ cap (h + 1) n := by
          intro i g ok
          obtain ⟨c, v, q, o, a, b, i1, g1, e1, ok1, hp⟩ := stmt_in g ok k (by omega)
          simp only [spec_l05Block.j1, Bool.false_eq_true, if_false]
          rw [e1]
          simp only [Option.bind_some]
          rw [if_pos (by omega), w64 (n := j + 1) (by omega) (by omega)]
          refine ih k _ (j + 1) i1 g1 ok1 (by omega) (by omega) (by omega) (good_app hg (good_plain hp (by omega))) ?_
          revert hx
          unfold cap
          simp only [List.length_append, List.length_cons, List.length_nil]
          split <;> (try split) <;> omega
        simp only [spec_l05Block.l0]
        rw [if_pos (by omega), if_pos (by omega)]
        by_cases c6 : (x.length : Int) < 6
        · rw [if_pos c6]
          obtain ⟨f, i1, g1, e1, ok1⟩ := once_tells g 5 ok (by omega)
          rw [e1]
          simp only [Option.bind_some]
          by_cases cf : f = true
          · subst cf
            obtain ⟨t, i2, g2, e2, ok2, t0, t1⟩ := below_tells g1 3 ok1 (by omega)
            obtain ⟨f2, i3, g3, e3, ok3⟩ := once_tells g2 2 ok2 (by omega)
            -- the end of either way
            have tail : ∀ (s : S27) (i g : Int), OkC l i → (s.f0 = 4 ∨ s.f0 = 5) → okS s = true → ∀ m, 0 ≤ m → m < 2 → ∃ b2 i2 g2, spec_l05Block.f k l i g (wrap64 (1 + m)) (wrap64 (2 - ((h + 1 : Nat) : Int) + 1)) = some (b2, i2, g2) ∧ (b2.length : Int) ≤ 8 ∧
                (∃ b i' g', spec_l05Block.l0 k n (2 - ((h + 1 : Nat) : Int)) (((x ++ [s]) ++ b2) ++ [(⟨6, 0, 0, (⟨0, 0, 0⟩ : S25)⟩ : S27)]) (wrap64 (j + 1)) l i2 g2 = some (b, i', g') ∧ OkC l i' ∧ Good b ((h + 1 : Nat) : Int) ∧ (b.length : Int) ≤ cap (h + 1) n) := by
              intro s i g ok hs hs2 m m0 m1
              rw [w64 (n := 1 + m) (by omega) (by omega), w64 (n := 2 - ((h + 1 : Nat) : Int) + 1) (by omega) (by omega), w64 (n := j + 1) (by omega) (by omega), show 2 - ((h + 1 : Nat) : Int) + 1 = 2 - (h : Int) by omega]
              obtain ⟨b2, i2, g2, e, ok2, hg2, hb2⟩ := ihh (by omega) k i g (1 + m) ok (by omega) (by split <;> omega) (by omega)
              have hb8 : (b2.length : Int) ≤ (if h = 0 then 2 else 8) := by revert hb2; unfold cap; split <;> (try split) <;> omega
              refine ⟨b2, i2, g2, e, by revert hb8; split <;> omega, ?_⟩
              refine ih k _ (j + 1) i2 g2 ok2 (by omega) (by omega) (by omega) ?_ ?_
              · have hw := good_wrap (q := b2) (m := (h : Int)) (c := s.f0) (v := s.f1) (n := s.f2) (o := s.f3.f0) (a := s.f3.f1) (b := s.f3.f2) hs2 hs (by omega) hg2
                have := good_app hg (m := ((h + 1 : Nat) : Int)) hw
                simpa [List.append_assoc] using this
              · revert hx
                unfold cap
                simp only [List.length_append, List.length_cons, List.length_nil]
                revert hb8
                split
                · split <;> (try split) <;> omega
                · split <;> (try split) <;> omega
            simp only [spec_l05Block.j1, if_true]
            rw [e2]
            simp only [Option.bind_some]
            rw [e3]
            simp only [Option.bind_some]
            by_cases c2 : f2 = true
            · rw [if_pos c2]
              obtain ⟨o, a, b, i4, g4, e4, ok4, he⟩ := expr_in g3 ok3
              obtain ⟨m, i5, g5, e5, ok5, m0, m1⟩ := below_tells g4 2 ok4 (by omega)
              obtain ⟨b2, i6, g6, e6, hb8, b, i7, g7, e7, h7⟩ := tail (⟨4, 0, 0, ⟨o, a, b⟩⟩ : S27) i5 g5 ok5 (Or.inl rfl) (by unfold okS sok; simp [he]) m m0 m1
              rw [e4]
              simp only [Option.bind_some]
              rw [if_pos (by omega), e5]
              simp only [Option.bind_some]
              rw [e6]
              simp only [Option.bind_some]
              rw [if_pos (by simp; omega), if_pos (by simp; omega)]
              exact ⟨_, _, _, e7, h7⟩
            · rw [if_neg c2]
              obtain ⟨m, i5, g5, e5, ok5, m0, m1⟩ := below_tells g3 2 ok3 (by omega)
              obtain ⟨b2, i6, g6, e6, hb8, b, i7, g7, e7, h7⟩ := tail (⟨5, 0, wrap64 (1 + t), ⟨0, 0, 0⟩⟩ : S27) i5 g5 ok5 (Or.inr rfl) (by rw [w64 (by omega) (by omega)]; unfold okS sok zok; simp; omega) m m0 m1
              rw [if_pos (by omega), e5]
              simp only [Option.bind_some]
              rw [e6]
              simp only [Option.bind_some]
              rw [if_pos (by simp; omega), if_pos (by simp; omega)]
              exact ⟨_, _, _, e7, h7⟩
          · have : f = false := by simpa using cf
            subst this
            exact hplain i1 g1 ok1
        · rw [if_neg c6]
          exact hplain i g ok
    obtain ⟨k, rfl⟩ : ∃ m, k = m + 1 := ⟨k - 1, by omega⟩
    unfold spec_l05Block.f
    exact hl n.toNat k [] 0 i g ok (by omega) (by omega) (by push_cast at hk; omega) (good_nil _) (by unfold cap; simp; split <;> omega)
theorem good_blk {b : List S27} (h : Good b 2) (hl : (b.length : Int) ≤ 24) : blk b = true := by
  unfold blk fin
  have := h [] 0 (by omega) (by omega)
  rw [List.append_nil] at this
  rw [this]
  simp [scan]
  omega
theorem case_in {l : List Int} {i : Int} (g : Int) (ok : OkC l i) (k : Nat) (hk : 30 ≤ k) : ∃ b i' g', spec_l05Case.f k l i g = some (b, i', g') ∧ OkC l i' ∧ blk b = true := by
  unfold spec_l05Case.f
  obtain ⟨n, i1, g1, e1, ok1, n0, n1⟩ := below_tells g 6 ok (by omega)
  obtain ⟨b, i2, g2, e2, ok2, hg, hb⟩ := block_in 2 (by omega) k i1 g1 n ok1 n0 (by rw [if_pos rfl]; omega) (by omega)
  rw [e1]
  simp only [Option.bind_some]
  have e3 : spec_l05Block.f k l i1 g1 n 0 = some (b, i2, g2) := e2
  rw [e3]
  exact ⟨_, _, _, rfl, ok2, good_blk hg (by revert hb; unfold cap; simp; omega)⟩
theorem rd_app62 (pre : List S99) (a : S99) (t : List S99) : rd_T99 (pre ++ a :: t) (pre.length : Int) = a := by
  unfold rd_T99
  simp [List.getD]
/-- A valid task. -/
def tok (s : S99) : Bool := blk s.f0 && eok s.f1.f0 s.f1.f1 s.f1.f2
/-- A valid program. -/
def pok (l : List S99) : Bool := decide (1 ≤ (l.length : Int) ∧ (l.length : Int) ≤ 6) && l.all tok
/-- Bodies that aren't longer than all that is asked. -/
def Small (l : List S99) : Prop := l.length ≤ 1048576 ∧ ∀ s ∈ l, s.f0.length ≤ 1048576
theorem itask (s : S99) (hz : s.f0.length ≤ 1048576) (k : Nat) (hk : 2097160 ≤ k) : impl_taskOk.f k s.f0 s.f1.f0 s.f1.f1 s.f1.f2 = some (tok s) := by
  unfold impl_taskOk.f tok
  rw [iblock s.f0 (by omega) k (by omega), iexpr]
  simp only [Option.bind_some]
  cases blk s.f0 <;> simp
theorem iprog_loop (suf : List S99) : ∀ (k : Nat) (pre x : List S99), x = pre ++ suf → Small x → suf.length + 2097162 ≤ k →
    impl_ProgramOk.l0 k x (pre.length : Int) = some (suf.all tok) := by
  induction suf with
  | nil =>
    intro k pre x hx hz hk
    obtain ⟨k, rfl⟩ : ∃ m, k = m + 1 := ⟨k - 1, by omega⟩
    have hl : x.length = pre.length := by simp [hx]
    simp only [impl_ProgramOk.l0]
    rw [if_neg (by omega)]
    rfl
  | cons a t ih =>
    intro k pre x hx hz hk
    simp only [List.length_cons] at hk
    obtain ⟨k, rfl⟩ : ∃ m, k = m + 1 := ⟨k - 1, by omega⟩
    have hl : x.length = pre.length + (t.length + 1) := by simp [hx]
    have hr : rd_T99 x (pre.length : Int) = a := by rw [hx]; exact rd_app62 pre a t
    have hn : ((pre.length : Int) + 1) = (((pre ++ [a]).length : Nat) : Int) := by simp
    simp only [impl_ProgramOk.l0]
    rw [if_pos (by omega), if_pos (by omega), hr, itask a (hz.2 a (by simp [hx])) k (by omega)]
    simp only [Option.bind_some, List.all_cons]
    by_cases c : tok a = true
    · rw [if_pos c, c, hn, ih k (pre ++ [a]) x (by simp [hx]) hz (by omega)]
      rfl
    · rw [if_neg c, Bool.eq_false_iff.mpr c]
      rfl
theorem iprog (x : List S99) (hz : Small x) (k : Nat) (hk : x.length + 2097162 ≤ k) : impl_ProgramOk.f k x = some (pok x) := by
  unfold impl_ProgramOk.f pok
  rw [within_eq]
  simp only [Option.bind_some]
  by_cases c : 1 ≤ (x.length : Int) ∧ (x.length : Int) ≤ 6
  · rw [decide_eq_true c, if_pos rfl]
    have := iprog_loop x k [] x rfl hz hk
    simp only [List.length_nil] at this
    rw [show ((0 : Nat) : Int) = 0 from rfl] at this
    rw [this, Bool.true_and]
  · rw [decide_eq_false c, if_neg (by simp), Bool.false_and]
theorem prog_loop (l : List Int) (d : Nat) : ∀ (k : Nat) (out : List S99) (j i g : Int), OkC l i → 0 ≤ j → (out.length : Int) = j → 3 - j = d → d + 40 < k → (1 ≤ j ∨ d = 3) → (∀ s ∈ out, tok s = true) →
    ∃ p i' g', spec_l06Program.l0 k j l i g out = some (p, i', g') ∧ 1 ≤ p.length ∧ p.length ≤ 3 ∧ ∀ s ∈ p, tok s = true := by
  induction d with
  | zero =>
    intro k out j i g ok h0 hl hd hk hj ho
    obtain ⟨k, rfl⟩ : ∃ m, k = m + 1 := ⟨k - 1, by omega⟩
    simp only [spec_l06Program.l0]
    obtain ⟨x, i1, g1, e1, ok1, x0, x1⟩ := below_tells g 3 ok (by omega)
    rw [e1]
    simp only [Option.bind_some]
    rw [w64 (n := 1 + x) (by omega) (by omega), if_neg (by omega)]
    exact ⟨_, _, _, rfl, by omega, by omega, ho⟩
  | succ d ih =>
    intro k out j i g ok h0 hl hd hk hj ho
    obtain ⟨k, rfl⟩ : ∃ m, k = m + 1 := ⟨k - 1, by omega⟩
    simp only [spec_l06Program.l0]
    obtain ⟨x, i1, g1, e1, ok1, x0, x1⟩ := below_tells g 3 ok (by omega)
    rw [e1]
    simp only [Option.bind_some]
    rw [w64 (n := 1 + x) (by omega) (by omega)]
    by_cases c : j < 1 + x
    · rw [if_pos c]
      obtain ⟨b, i2, g2, e2, ok2, hb⟩ := case_in g1 ok1 k (by omega)
      obtain ⟨o, a, q, i3, g3, e3, ok3, he⟩ := expr_in g2 ok2
      rw [e2]
      simp only [Option.bind_some]
      rw [e3]
      simp only [Option.bind_some]
      rw [if_pos (by omega), w64 (n := j + 1) (by omega) (by omega)]
      refine ih k _ (j + 1) i3 g3 ok3 (by omega) (by simp; omega) (by omega) (by omega) (Or.inl (by omega)) ?_
      intro s hs
      rcases List.mem_append.1 hs with h | h
      · exact ho s h
      · rw [List.mem_singleton.1 h]; unfold tok; simp only; rw [hb, he]; rfl
    · rw [if_neg c]
      exact ⟨_, _, _, rfl, by omega, by omega, ho⟩
theorem drawProg (l : List Int) (sz : (l.length : Int) ≤ 140737488351232) : ∃ p, (∀ k, l.length + 50 ≤ k → spec_DrawProgram.f k l = some p) ∧ pok p = true ∧ Small p := by
  obtain ⟨g, eg⟩ := new_tells l sz
  obtain ⟨p, i', g', e, h1, h3, ht⟩ := prog_loop l 3 44 [] 0 0 g (ok_start sz) (by omega) (by simp) (by omega) (by omega) (Or.inr rfl) (by simp)
  refine ⟨p, fun k hk => ?_, ?_, by omega, fun s hs => ?_⟩
  · unfold spec_DrawProgram.f spec_l06Program.f
    rw [eg k (by omega)]
    simp only [Option.bind_some]
    rw [at_rounds (fun k => spec_l06Program.mono_l k _ _ _ _ _) (by omega : 44 ≤ k) e]
    rfl
  · unfold pok
    rw [Bool.and_eq_true, List.all_eq_true]
    exact ⟨decide_eq_true (by omega), ht⟩
  · have := ht s hs
    unfold tok at this
    rw [Bool.and_eq_true] at this
    have h24 : s.f0.length ≤ 24 := by
      have := this.1
      unfold blk fin at this
      rw [Bool.and_eq_true] at this
      exact of_decide_eq_true this.2
    omega
/-- A number behind a space. -/
def spn (n : Int) : List UInt8 := 32 :: Lib.itoa n
/-- A statement's word. -/
def kw (c : Int) : List UInt8 := if c = 1 then [115, 101, 116] else if c = 2 then [115, 101, 110, 115, 101] else if c = 3 then [115, 101, 110, 100] else if c = 4 then [105, 102] else if c = 5 then [108, 111, 111, 112] else [101, 110, 100]
/-- A statement's numbers. -/
def nums (c v n o a b : Int) : List Int := if c = 1 then [v, o, a, b] else if c = 2 then [v, n] else if c = 3 ∨ c = 4 then [o, a, b] else if c = 5 then [n] else []
/-- A statement's text. -/
def canon (c v n o a b : Int) : List UInt8 := kw c ++ (nums c v n o a b).flatMap spn
theorem rd_at (pre : List Int) (n : Int) (u : List Int) : rd (pre ++ n :: u) (pre.length : Int) = n := by
  unfold Go.Proofs.YtcpmkcidehhbiaaDoorW.PrintWords.rd
  simp [List.getD]
def i64 (n : Int) : Prop := -9223372036854775808 ≤ n ∧ n ≤ 9223372036854775807
theorem spn_tx (n : Int) : (⟨#[32]⟩ : ByteArray) ++ (⟨(Lib.itoa n).toArray⟩ : ByteArray) = tx (spn n) := tx_app [32] (Lib.itoa n)
theorem spn_len {n : Int} (h : i64 n) : (spn n).length ≤ 21 := by
  have := itoa_len h.1 h.2
  unfold spn
  rw [List.length_cons]; omega
theorem spaced_loop (ns : List Int) (hl : ns.length ≤ 100) (u : List Int) : ∀ (k : Nat) (x : List UInt8) (pre : List Int), ns = pre ++ u → (∀ n ∈ u, i64 n) → x.length + 30 * u.length ≤ 100000 → u.length < k →
    impl_spaced.l0 k (tx x) ns (ns.length : Int) (pre.length : Int) = some (tx (x ++ u.flatMap spn)) := by
  induction u with
  | nil =>
    intro k x pre e _ _ hk
    obtain ⟨k, rfl⟩ : ∃ m, k = m + 1 := ⟨k - 1, by omega⟩
    simp only [impl_spaced.l0]
    rw [if_neg (by rw [e]; simp)]
    simp
  | cons n u ih =>
    intro k x pre e hn hx hk
    simp only [List.length_cons] at hk hx
    obtain ⟨k, rfl⟩ : ∃ m, k = m + 1 := ⟨k - 1, by omega⟩
    have hlen : ns.length = pre.length + (u.length + 1) := by rw [e]; simp
    have h0 := hn n (by simp)
    have hs := spn_len h0
    have hz : (⟨(Lib.itoa n).toArray⟩ : ByteArray).size = (Lib.itoa n).length := tx_size _
    have hi := itoa_len h0.1 h0.2
    have i2 := ih k (x ++ spn n) (pre ++ [n]) (by rw [e]; simp) (fun y hy => hn y (by simp [hy])) (by rw [List.length_append]; omega) (by omega)
    rw [List.length_append, List.length_singleton] at i2
    simp only [impl_spaced.l0]
    rw [if_pos (by omega), if_pos (by omega), if_pos (by omega), show rd ns (pre.length : Int) = n by rw [e]; exact rd_at pre n u, ifmt n h0.1 h0.2]
    simp only [Option.bind_some]
    rw [spn_tx, tx_size, tx_size, hz, if_pos (by omega), if_pos (by omega), tx_app, w64 (by omega) (by omega), show ((pre.length : Nat) : Int) + 1 = ((pre.length + 1 : Nat) : Int) by omega, i2]
    simp
theorem spaced_tells (x : List UInt8) (ns : List Int) (hl : ns.length ≤ 100) (hx : x.length ≤ 1000) (hn : ∀ n ∈ ns, i64 n) (k : Nat) (hk : ns.length < k) : impl_spaced.f k (tx x) ns = some (tx (x ++ ns.flatMap spn)) := by
  unfold impl_spaced.f
  exact spaced_loop ns hl ns k x [] (by simp) hn (by omega) hk
theorem hasN_eq (c : Int) : impl_hasN.f c = some (decide (c = 2 ∨ c = 5)) := by
  unfold impl_hasN.f
  by_cases h : c = 2
  · rw [if_pos h]; simp [h]
  · rw [if_neg h]; simp [h]; rfl
theorem sok_kind {c v n o a b : Int} (h : sok c v n o a b = true) : c = 1 ∨ c = 2 ∨ c = 3 ∨ c = 4 ∨ c = 5 ∨ c = 6 := by
  unfold sok at h
  by_cases h1 : c = 1; · exact Or.inl h1
  by_cases h2 : c = 2; · exact Or.inr (Or.inl h2)
  by_cases h3 : c = 3; · exact Or.inr (Or.inr (Or.inl h3))
  by_cases h4 : c = 4; · exact Or.inr (Or.inr (Or.inr (Or.inl h4)))
  by_cases h5 : c = 5; · exact Or.inr (Or.inr (Or.inr (Or.inr (Or.inl h5))))
  by_cases h6 : c = 6; · exact Or.inr (Or.inr (Or.inr (Or.inr (Or.inr h6))))
  rw [if_neg h1, if_neg h2, if_neg h3, if_neg h4, if_neg h5, if_neg h6] at h
  cases h
/-- The numbers of a valid statement are small. -/
theorem nums_small {c v n o a b : Int} (h : sok c v n o a b = true) : ∀ x ∈ nums c v n o a b, -8 ≤ x ∧ x ≤ 999 := by
  intro x hx
  rcases sok_kind h with rfl | rfl | rfl | rfl | rfl | rfl
  · simp only [sok, if_true, Bool.and_eq_true, decide_eq_true_eq] at h
    have he := eok_in h.2.2
    simp only [nums, if_true, List.mem_cons, List.not_mem_nil, or_false] at hx
    omega
  · simp [sok] at h
    simp [nums] at hx
    omega
  · simp [sok] at h
    have he := eok_in h.2.2
    simp [nums] at hx
    omega
  · simp [sok] at h
    have he := eok_in h.2.2
    simp [nums] at hx
    omega
  · simp [sok] at h
    simp [nums] at hx
    omega
  · simp [nums] at hx
theorem nums_len (c v n o a b : Int) : (nums c v n o a b).length ≤ 4 := by
  unfold nums
  repeat' split
  all_goals simp
theorem kw_len (c : Int) : (kw c).length ≤ 5 := by
  unfold kw
  repeat' split
  all_goals simp
theorem iformat (c v n o a b : Int) (k : Nat) (hk : 20 ≤ k) : impl_FormatStmt.f k c v n o a b = some (tx (if sok c v n o a b = true then canon c v n o a b else [])) := by
  unfold impl_FormatStmt.f
  rw [istmt c v n o a b k (by omega)]
  simp only [Option.bind_some]
  by_cases h : sok c v n o a b = true
  · rw [if_pos h, if_pos h]
    have hs := nums_small h
    have hi : ∀ x ∈ nums c v n o a b, i64 x := fun x hx => by have := hs x hx; unfold i64; omega
    have hsp := spaced_tells (kw c) (nums c v n o a b) (by have := nums_len c v n o a b; omega) (by have := kw_len c; omega) hi
    obtain ⟨k, rfl⟩ : ∃ m, k = m + 2 := ⟨k - 2, by omega⟩
    have h2 := hsp k (by have := nums_len c v n o a b; omega)
    unfold canon
    rcases sok_kind h with rfl | rfl | rfl | rfl | rfl | rfl <;>
      simp [hasVar_eq, hasN_eq, hasExpr_eq, impl_FormatStmt.j0, impl_FormatStmt.j1, impl_stmtNames.f, Go.Proofs.YtcpmkcidehhbiaaDoorW.PrintWords.rdOf, nums, kw] at h2 ⊢ <;> exact h2
  · rw [if_neg h, if_neg h]; rfl
def stx (s : S27) : List UInt8 := if sok s.f0 s.f1 s.f2 s.f3.f0 s.f3.f1 s.f3.f2 = true then canon s.f0 s.f1 s.f2 s.f3.f0 s.f3.f1 s.f3.f2 else []
def tln (s : S99) : List UInt8 := [116, 97, 115, 107] ++ [s.f1.f0, s.f1.f1, s.f1.f2].flatMap spn
def bodyT (l : List S27) : List UInt8 := l.flatMap fun s => stx s ++ [10]
def ptxt (l : List S99) : List UInt8 := l.flatMap fun s => (tln s ++ [10]) ++ bodyT s.f0
theorem flat_len (l : List Int) (h : ∀ x ∈ l, i64 x) : (l.flatMap spn).length ≤ 21 * l.length := by
  induction l with
  | nil => simp
  | cons a l ih =>
    have h1 := spn_len (h a (by simp))
    have h2 := ih (fun x hx => h x (by simp [hx]))
    rw [List.flatMap_cons, List.length_append, List.length_cons]
    omega
theorem canon_len {c v n o a b : Int} (h : sok c v n o a b = true) : (canon c v n o a b).length ≤ 89 := by
  have hs := nums_small h
  have h1 := flat_len (nums c v n o a b) (fun x hx => by have := hs x hx; unfold i64; omega)
  have h2 := nums_len c v n o a b
  have h3 := kw_len c
  unfold canon
  rw [List.length_append]
  omega
theorem stx_len (s : S27) : (stx s).length ≤ 89 := by
  unfold stx
  split
  · rename_i h; exact canon_len h
  · simp
theorem tln_len (s : S99) (h : eok s.f1.f0 s.f1.f1 s.f1.f2 = true) : (tln s).length ≤ 67 := by
  have he := eok_in h
  have h1 := flat_len [s.f1.f0, s.f1.f1, s.f1.f2] (fun x hx => by simp at hx; unfold i64; omega)
  unfold tln
  rw [List.length_append]
  simp only [List.length_cons, List.length_nil] at h1 ⊢
  omega
theorem pok_all {l : List S99} (h : pok l = true) : l.length ≤ 6 ∧ 1 ≤ l.length ∧ ∀ s ∈ l, s.f0.length ≤ 24 ∧ eok s.f1.f0 s.f1.f1 s.f1.f2 = true ∧ blk s.f0 = true := by
  unfold pok at h
  simp only [Bool.and_eq_true, decide_eq_true_eq] at h
  refine ⟨by omega, by omega, fun s hs => ?_⟩
  have ht := List.all_eq_true.1 h.2 s hs
  unfold tok at ht
  simp only [Bool.and_eq_true] at ht
  have hb := ht.1
  unfold blk fin at hb
  simp only [Bool.and_eq_true, decide_eq_true_eq] at hb
  exact ⟨hb.2, ht.2, ht.1⟩
theorem tx_nil : (⟨#[]⟩ : ByteArray) = tx [] := rfl
theorem taskLine_tells (s : S99) (h : eok s.f1.f0 s.f1.f1 s.f1.f2 = true) (k : Nat) (hk : 10 ≤ k) : impl_taskLine.f k s.f1.f0 s.f1.f1 s.f1.f2 = some (tx (tln s)) := by
  have he := eok_in h
  unfold impl_taskLine.f
  have hsp := spaced_tells [116, 97, 115, 107] [s.f1.f0, s.f1.f1, s.f1.f2] (by simp) (by simp) (fun x hx => by simp at hx; unfold i64; omega) k (by simp; omega)
  have e : (⟨#[116, 97, 115, 107]⟩ : ByteArray) = tx [116, 97, 115, 107] := rfl
  rw [e, hsp]
  rfl
theorem body_len (l : List S27) : (bodyT l).length ≤ 90 * l.length := by
  induction l with
  | nil => simp [bodyT]
  | cons a l ih =>
    have := stx_len a
    unfold bodyT at ih ⊢
    rw [List.flatMap_cons, List.length_append, List.length_append]
    simp only [List.length_cons, List.length_nil]
    omega
theorem inner_tells (k : Nat) (hk : 20 ≤ k) (l : List S27) : ∀ acc : List UInt8, acc.length + 100 * l.length ≤ 1000000000000 → impl_ProgramText.inner k l acc = some (acc ++ bodyT l) := by
  induction l with
  | nil => intro acc _; simp [impl_ProgramText.inner, bodyT]
  | cons s l ih =>
    intro acc ha
    simp only [List.length_cons] at ha
    have hs := stx_len s
    simp only [impl_ProgramText.inner]
    rw [iformat _ _ _ _ _ _ k hk]
    simp only [Option.bind_some]
    have e : (if sok s.f0 s.f1 s.f2 s.f3.f0 s.f3.f1 s.f3.f2 = true then canon s.f0 s.f1 s.f2 s.f3.f0 s.f3.f1 s.f3.f2 else []) = stx s := rfl
    rw [e, tx_size, if_pos (by omega), tx_list, ih _ (by simp only [List.length_append, List.length_singleton]; omega)]
    simp [bodyT]
theorem outer_tells (k : Nat) (hk : 20 ≤ k) (l : List S99) : ∀ acc : List UInt8, (∀ s ∈ l, s.f0.length ≤ 24 ∧ eok s.f1.f0 s.f1.f1 s.f1.f2 = true) → acc.length + 10000 * l.length ≤ 1000000 → impl_ProgramText.outer k l acc = some (acc ++ ptxt l) := by
  induction l with
  | nil => intro acc _ _; simp [impl_ProgramText.outer, ptxt]
  | cons s l ih =>
    intro acc hs ha
    simp only [List.length_cons] at ha
    have h0 := hs s (by simp)
    have ht := tln_len s h0.2
    have hb0 := body_len s.f0
    simp only [impl_ProgramText.outer]
    rw [taskLine_tells s h0.2 k (by omega)]
    simp only [Option.bind_some]
    rw [tx_size, if_pos (by omega), tx_list, inner_tells k hk s.f0 _ (by simp only [List.length_append, List.length_singleton]; omega)]
    simp only [Option.bind_some]
    rw [ih _ (fun x hx => hs x (by simp [hx])) (by simp only [List.length_append, List.length_singleton]; omega)]
    simp [ptxt]
theorem iptext (x : List S99) (hz : Small x) (k : Nat) (hk : x.length + 4000000 ≤ k) : impl_ProgramText.f k x = some (tx (if pok x = true then ptxt x else [])) := by
  unfold impl_ProgramText.f
  rw [iprog x hz k (by omega)]
  simp only [Option.bind_some]
  by_cases c : pok x = true
  · have hp := pok_all c
    rw [if_pos c, if_pos c, outer_tells k (by omega) x [] (fun s hs => ⟨(hp.2.2 s hs).1, (hp.2.2 s hs).2.1⟩) (by simp; omega)]
    rfl
  · rw [if_neg c, if_neg c]; rfl
theorem pu_app (l : List UInt8) : ∀ (acc u : Nat) (r : List UInt8), Lib.parseUint10 acc l = .ok u → Lib.parseUint10 acc (l ++ r) = Lib.parseUint10 u r := by
  induction l with
  | nil => intro acc u r h; simp only [Lib.parseUint10] at h; injection h with h; subst h; rfl
  | cons c l ih =>
    intro acc u r h
    simp only [Lib.parseUint10] at h
    split at h
    · rename_i hc
      split at h
      · cases h
      · rename_i h1
        split at h
        · cases h
        · rename_i h2
          rw [List.cons_append]
          simp only [Lib.parseUint10]
          rw [if_pos hc, if_neg h1, if_neg h2]
          exact ih _ _ _ h
    · cases h
theorem fig_nat (n : Nat) (h : n < 10) : (UInt8.ofNat (48 + n)).toNat = 48 + n := UInt8.toNat_ofNat_of_lt' (by show 48 + n < 256; omega)
theorem pu_dec (n : Nat) : n < 18446744073709551616 → Lib.parseUint10 0 (Lib.decDigits n) = .ok n := by
  induction n using Nat.strongRecOn with
  | _ n ih =>
    intro h
    by_cases c : n < 10
    · rw [Lib.decDigits_one c]
      simp only [Lib.parseUint10, fig_nat n c]
      rw [if_pos (by omega), if_neg (by omega), if_neg (by omega)]
      congr 1; omega
    · rw [Lib.decDigits, dif_neg c, pu_app _ _ _ _ (ih (n / 10) (by omega) (by omega))]
      simp only [Lib.parseUint10, fig_nat (n % 10) (by omega)]
      rw [if_pos (by omega), if_neg (by omega), if_neg (by omega)]
      congr 1; omega
theorem dec_digit (n : Nat) : ∀ c ∈ Lib.decDigits n, 48 ≤ c.toNat ∧ c.toNat ≤ 57 := by
  induction n using Nat.strongRecOn with
  | _ n ih =>
    intro c hc
    by_cases d : n < 10
    · rw [Lib.decDigits_one d] at hc
      obtain rfl := List.mem_singleton.1 hc
      rw [fig_nat n d]; omega
    · rw [Lib.decDigits, dif_neg d] at hc
      rcases List.mem_append.1 hc with hc | hc
      · exact ih (n / 10) (by omega) c hc
      · obtain rfl := List.mem_singleton.1 hc
        rw [fig_nat (n % 10) (by omega)]; omega
theorem dec_ne (n : Nat) : Lib.decDigits n ≠ [] := by
  intro e
  have h := Lib.decDigits_length n
  rw [e] at h
  have := Lib.nDigits_pos n
  simp at h
  omega
theorem dec_len (n : Nat) (h : n < 10000000000) : (Lib.decDigits n).length ≤ 10 := by
  rw [Lib.decDigits_length]
  have hb : ∀ (k u : Nat), u < 10 ^ (k + 1) → Lib.nDigits u ≤ k + 1 := by
    intro k
    induction k with
    | zero => intro u hu; rw [Lib.nDigits_small (by simpa using hu)]; omega
    | succ k ih =>
      intro u hu
      by_cases c : u < 10
      · rw [Lib.nDigits_small c]; omega
      · rw [Lib.nDigits_big c]
        have := ih (u / 10) (by rw [Nat.pow_succ] at hu; omega)
        omega
  exact hb 9 n (by simpa using h)
theorem atoi_dec (n : Nat) (h : n < 9223372036854775808) : Lib.atoiAll (Lib.decDigits n) = .ok (n : Int) := by
  cases e : Lib.decDigits n with
  | nil => exact absurd e (dec_ne n)
  | cons c r =>
    have hc := dec_digit n c (by rw [e]; simp)
    rw [Lib.atoiAll_plain c r (by omega) (by omega), ← e]
    unfold Lib.parseMag
    rw [if_neg (dec_ne n), pu_dec n (by omega)]
    simp only [Lib.signless]
    rw [if_neg (by omega)]
/-- The number that digits spell. -/
def dval (acc : Nat) (l : List UInt8) : Nat := l.foldl (fun a c => 10 * a + (c.toNat - 48)) acc
theorem dval_dec (n : Nat) : dval 0 (Lib.decDigits n) = n := by
  induction n using Nat.strongRecOn with
  | _ n ih =>
    by_cases c : n < 10
    · rw [Lib.decDigits_one c]
      simp only [dval, List.foldl_cons, List.foldl_nil, fig_nat n c]; omega
    · have h := ih (n / 10) (by omega)
      unfold dval at h ⊢
      rw [Lib.decDigits, dif_neg c, List.foldl_append, h]
      simp only [List.foldl_cons, List.foldl_nil, fig_nat (n % 10) (by omega)]; omega
/-- What ParseUint gives. -/
def puv (l : List UInt8) : Int × Bool := if dval 0 l ≤ 1000000000 ∧ Lib.decDigits (dval 0 l) = l then ((dval 0 l : Int), true) else (0, false)
theorem puv_of (n : Nat) (h : n ≤ 1000000000) : puv (Lib.decDigits n) = ((n : Int), true) := by
  unfold puv
  rw [dval_dec, if_pos ⟨h, rfl⟩]
theorem itoa_nat (n : Nat) : Lib.itoa (n : Int) = Lib.decDigits n := Lib.itoa_nonneg n
theorem data_back (s : ByteArray) : (⟨s.data.toList.toArray⟩ : ByteArray) = s := by cases s; simp
/-- A list cut at each c. -/
def cutGo (c : UInt8) : List UInt8 → List UInt8 → List (List UInt8)
  | cur, [] => [cur]
  | cur, b :: l => if b = c then cur :: cutGo c [] l else cutGo c (cur ++ [b]) l
theorem cut_free (c : UInt8) : ∀ (p cur : List UInt8), (∀ b ∈ p, b ≠ c) → cutGo c cur p = [cur ++ p]
  | [], cur, _ => by simp [cutGo]
  | b :: p, cur, h => by
    rw [cutGo, if_neg (h b (by simp)), cut_free c p (cur ++ [b]) (fun x hx => h x (by simp [hx]))]
    simp
theorem cut_at (c : UInt8) : ∀ (p cur r : List UInt8), (∀ b ∈ p, b ≠ c) → cutGo c cur (p ++ c :: r) = (cur ++ p) :: cutGo c [] r
  | [], cur, r, _ => by rw [List.nil_append, cutGo, if_pos rfl]; simp
  | b :: p, cur, r, h => by
    rw [List.cons_append, cutGo, if_neg (h b (by simp)), cut_at c p (cur ++ [b]) r (fun x hx => h x (by simp [hx]))]
    simp
theorem split_cut (c : UInt8) (n : Nat) : ∀ l : List UInt8, l.length ≤ n → Lib.split l [c] = cutGo c [] l := by
  induction n with
  | zero =>
    intro l hl
    have : l = [] := List.length_eq_zero_iff.1 (by omega)
    subst this
    unfold Lib.split
    rw [Lib.count_one]
    rfl
  | succ n ih =>
    intro l hl
    rcases Lib.index_spec l [c] with ⟨h, hno⟩ | ⟨i, h, hi, ho, _⟩
    · have hfree : ∀ b ∈ l, b ≠ c := by
        intro b hb e
        obtain ⟨k, hk, rfl⟩ := List.mem_iff_getElem.1 hb
        rw [Lib.index_one] at h
        exact Lib.indexByte_none h k (by rw [List.getElem?_eq_getElem hk, e])
      unfold Lib.split
      rw [Lib.count_miss h, cut_free c l [] hfree]
      rfl
    · rw [Lib.index_one] at h
      obtain ⟨h1, h2⟩ := Lib.indexByte_some h
      have hlt : i < l.length := by
        rcases Nat.lt_or_ge i l.length with z | z
        · exact z
        · rw [List.getElem?_eq_none z] at h1; cases h1
      have e : l = l.take i ++ c :: l.drop (i + 1) := by
        conv => lhs; rw [← List.take_append_drop i l]
        congr 1
        rw [List.drop_eq_getElem_cons hlt]
        congr 1
        rw [List.getElem?_eq_getElem hlt] at h1
        exact Option.some.inj h1
      have hfree : ∀ b ∈ l.take i, b ≠ c := by
        intro b hb e
        obtain ⟨k, hk, rfl⟩ := List.mem_iff_getElem.1 hb
        have hk2 : k < i := by simp only [List.length_take] at hk; omega
        refine h2 k hk2 ?_
        rw [List.getElem?_eq_getElem (by omega)]
        rw [List.getElem_take] at e
        rw [e]
      have hc := Lib.count_hit (s := l) (sub := [c]) (i := i) (by simp) (by rw [Lib.index_one]; exact h)
      have hd := ih (l.drop (i + 1)) (by rw [List.length_drop]; omega)
      unfold Lib.split at hd ⊢
      simp only [List.length_singleton] at hc
      rw [hc, Nat.add_comm 1, Lib.splitK, Lib.index_one, h]
      have hm : ¬ (((i : Nat) : Int) == -1) = true := fun z => by have := beq_iff_eq.1 z; omega
      rw [if_neg hm]
      simp only [Int.toNat_natCast, List.length_singleton, Nat.add_zero]
      rw [hd]
      conv => rhs; rw [e]
      rw [cut_at c _ [] _ hfree]
      simp
/-- The pieces of a text, as texts. -/
theorem splitB_cut (s : ByteArray) (c : UInt8) : (Lib.splitB ⟨#[c]⟩ 0 (Lib.countB s ⟨#[c]⟩) s).map (·.data.toList) = cutGo c [] s.data.toList := by
  rw [Lib.splitB_data]
  exact split_cut c _ s.data.toList (Nat.le_refl _)
theorem cut_words (c : UInt8) : ∀ (ws : List (List UInt8)) (w : List UInt8), (∀ b ∈ w, b ≠ c) → (∀ x ∈ ws, ∀ b ∈ x, b ≠ c) → cutGo c [] (w ++ ws.flatMap fun x => c :: x) = w :: ws
  | [], w, h, _ => by simpa using cut_free c w [] h
  | x :: ws, w, h, hs => by
    rw [List.flatMap_cons, List.cons_append, cut_at c w [] _ h, cut_words c ws x (hs x (by simp)) (fun y hy => hs y (by simp [hy]))]
    simp
/-- A byte that no line holds. -/
def bad (b : UInt8) : Bool := decide (b.toNat < 32 ∨ 126 < b.toNat)
theorem isSp_ok {b : UInt8} (h : bad b = false) : Lib.isSp b = decide (b.toNat = 32) := by
  have e : ∀ n : Nat, n < 256 → (b == UInt8.ofNat n) = decide (b.toNat = n) := by
    intro n hn
    by_cases c : b.toNat = n
    · have : b = UInt8.ofNat n := by apply UInt8.toNat_inj.1; rw [UInt8.toNat_ofNat_of_lt' (by exact hn)]; exact c
      rw [decide_eq_true c, this]; exact beq_self_eq_true _
    · have : b ≠ UInt8.ofNat n := by intro e2; apply c; rw [e2, UInt8.toNat_ofNat_of_lt' (by exact hn)]
      simp [c, this]
  have h' : ¬ (b.toNat < 32 ∨ 126 < b.toNat) := by simpa [bad] using h
  have e9 := e 9 (by omega); have e10 := e 10 (by omega); have e11 := e 11 (by omega); have e12 := e 12 (by omega); have e13 := e 13 (by omega); have e32 := e 32 (by omega)
  unfold Lib.isSp
  rw [show (9 : UInt8) = UInt8.ofNat 9 from rfl, show (10 : UInt8) = UInt8.ofNat 10 from rfl, show (11 : UInt8) = UInt8.ofNat 11 from rfl, show (12 : UInt8) = UInt8.ofNat 12 from rfl, show (13 : UInt8) = UInt8.ofNat 13 from rfl, show (32 : UInt8) = UInt8.ofNat 32 from rfl, e9, e10, e11, e12, e13, e32,
    decide_eq_false (show ¬ b.toNat = 9 by omega), decide_eq_false (show ¬ b.toNat = 10 by omega), decide_eq_false (show ¬ b.toNat = 11 by omega), decide_eq_false (show ¬ b.toNat = 12 by omega), decide_eq_false (show ¬ b.toNat = 13 by omega)]
  rfl
/-- The fields of a line, none where it is no line. -/
def spf (l : List UInt8) : Option (List (List UInt8)) := if 600 < l.length ∨ l.any bad = true then none else if 24 < (Lib.fields l).length then none else some (Lib.fields l)
/-- What both give. -/
def spr (l : List UInt8) : List ByteArray × Bool := match spf l with | some p => (p.map tx, true) | none => ([], false)
theorem fieldsGo_good : ∀ (l cur : List UInt8), (∀ b ∈ l, bad b = false) → (∀ b ∈ cur, bad b = false ∧ Lib.isSp b = false) → ∀ p ∈ Lib.fieldsGo cur l, p ≠ [] ∧ ∀ b ∈ p, bad b = false ∧ Lib.isSp b = false
  | [], cur, _, hc => by
    intro p hp
    cases cur with
    | nil => simp [Lib.fieldsGo] at hp
    | cons c r =>
      simp [Lib.fieldsGo] at hp
      subst hp
      exact ⟨by simp, hc⟩
  | b :: l, cur, hl, hc => by
    intro p hp
    have hb := hl b (by simp)
    have hl2 : ∀ b ∈ l, bad b = false := fun x hx => hl x (by simp [hx])
    cases hs : Lib.isSp b with
    | true =>
      cases cur with
      | nil => rw [Lib.fieldsGo_sp b l hs] at hp; exact fieldsGo_good l [] hl2 (by simp) p hp
      | cons c r =>
        rw [Lib.fieldsGo_end (c :: r) b l hs (by simp)] at hp
        rcases List.mem_cons.1 hp with e | hp
        · subst e; exact ⟨by simp, hc⟩
        · exact fieldsGo_good l [] hl2 (by simp) p hp
    | false =>
      rw [Lib.fieldsGo_more cur b l hs] at hp
      refine fieldsGo_good l (cur ++ [b]) hl2 ?_ p hp
      intro x hx
      rcases List.mem_append.1 hx with hx | hx
      · exact hc x hx
      · obtain rfl := List.mem_singleton.1 hx; exact ⟨hb, hs⟩
theorem fieldsGo_run : ∀ (p cur : List UInt8) (r : List UInt8), (∀ b ∈ p, Lib.isSp b = false) → Lib.fieldsGo cur (p ++ r) = Lib.fieldsGo (cur ++ p) r
  | [], cur, r, _ => by simp
  | b :: p, cur, r, h => by
    rw [List.cons_append, Lib.fieldsGo_more cur b _ (h b (by simp)), fieldsGo_run p (cur ++ [b]) r (fun x hx => h x (by simp [hx]))]
    simp
theorem sp32 : Lib.isSp 32 = true := by decide
theorem fields_join : ∀ (ps : List (List UInt8)), (∀ p ∈ ps, p ≠ [] ∧ ∀ b ∈ p, Lib.isSp b = false) → Lib.fields (ps.flatMap fun p => p ++ [32]) = ps
  | [], _ => by simp [Lib.fields, Lib.fieldsGo]
  | p :: ps, h => by
    have hp := h p (by simp)
    have ih := fields_join ps (fun q hq => h q (by simp [hq]))
    unfold Lib.fields at ih ⊢
    rw [List.flatMap_cons, List.append_assoc, fieldsGo_run p [] _ hp.2, List.nil_append, List.singleton_append, Lib.fieldsGo_end p 32 _ sp32 hp.1, ih]
def bad_int (n : Int) : Bool := decide (n < 32 ∨ 126 < n)
theorem bad_eq (b : UInt8) : bad b = bad_int (b.toNat : Int) := by
  unfold bad bad_int
  by_cases c : b.toNat < 32 ∨ 126 < b.toNat
  · rw [decide_eq_true c, decide_eq_true (by omega)]
  · rw [decide_eq_false c, decide_eq_false (by omega)]
theorem ext_tx (s : ByteArray) (i j : Nat) (h : j ≤ s.size) : s.extract i j = tx ((s.data.toList.drop i).take (j - i)) := by
  apply ByteArray.ext
  apply Array.toList_inj.1
  rw [ByteArray.data_extract]
  simp [tx]
theorem any_bad (l : List UInt8) : (l.map fun b => (b.toNat : Int)).any bad_int = l.any bad := by
  rw [List.any_map]
  congr 1
  funext b
  exact (bad_eq b).symm
theorem itoa_no32 (n : Int) : ∀ b ∈ Lib.itoa n, b ≠ 32 := by
  intro b hb
  unfold Lib.itoa at hb
  split at hb
  · rcases List.mem_cons.1 hb with e | hb
    · subst e; decide
    · have := dec_digit _ b hb
      intro e; subst e; simp at this
  · have := dec_digit _ b hb
    intro e; subst e; simp at this
theorem kw_no32 (c : Int) : ∀ b ∈ kw c, b ≠ 32 := by
  unfold kw
  repeat' split
  all_goals decide
theorem canon_cut (c v n o a b : Int) : cutGo 32 [] (canon c v n o a b) = kw c :: (nums c v n o a b).map Lib.itoa := by
  unfold canon
  have e : (nums c v n o a b).flatMap spn = ((nums c v n o a b).map Lib.itoa).flatMap (fun x => 32 :: x) := by
    rw [List.flatMap_map]; rfl
  rw [e]
  refine cut_words 32 _ _ (kw_no32 c) ?_
  intro x hx b hb
  obtain ⟨n, -, rfl⟩ := List.mem_map.1 hx
  exact itoa_no32 n b hb
theorem cut_len (c : UInt8) : ∀ (l cur : List UInt8), (cutGo c cur l).length = l.count c + 1
  | [], cur => by simp [cutGo]
  | b :: l, cur => by
    unfold cutGo
    by_cases h : b = c
    · subst h; rw [if_pos rfl, List.length_cons, cut_len b l []]; simp
    · rw [if_neg h, cut_len c l, List.count_cons_of_ne h]
theorem join_words (ps : List (List UInt8)) (w : List UInt8) : Lib.join (w :: ps) [32] = w ++ ps.flatMap fun x => 32 :: x := by
  rw [Lib.join_cons]
  unfold Lib.joinTail
  rw [List.flatMap_def]
  rfl
/-- A statement that a word and its numbers spell. -/
def mkS (c z0 z1 z2 z3 : Int) : Int × Int × Int × Int × Int × Int :=
  if c = 1 then (1, z0, 0, z1, z2, z3) else if c = 2 then (2, z0, z1, 0, 0, 0) else if c = 3 then (3, 0, 0, z0, z1, z2) else if c = 4 then (4, 0, 0, z0, z1, z2) else if c = 5 then (5, 0, z0, 0, 0, 0) else (c, 0, 0, 0, 0, 0)
/-- It is valid, and its text is T. -/
def good (T : List UInt8) (x : Int × Int × Int × Int × Int × Int) : Bool := sok x.1 x.2.1 x.2.2.1 x.2.2.2.1 x.2.2.2.2.1 x.2.2.2.2.2 && decide (canon x.1 x.2.1 x.2.2.1 x.2.2.2.1 x.2.2.2.2.1 x.2.2.2.2.2 = T)
theorem itoa_small (n : Int) (h0 : -8 ≤ n) (h1 : n ≤ 999) : Lib.atoiAll (Lib.itoa n) = .ok n := by
  by_cases h : 0 ≤ n
  · obtain ⟨m, rfl⟩ : ∃ m : Nat, n = m := ⟨n.toNat, by omega⟩
    rw [itoa_nat]
    exact atoi_dec m (by omega)
  · have hm : n.natAbs < 10 := by omega
    unfold Lib.itoa
    rw [if_pos (by omega), Lib.atoiAll_minus, Lib.decDigits_one hm]
    rcases (show n = -1 ∨ n = -2 ∨ n = -3 ∨ n = -4 ∨ n = -5 ∨ n = -6 ∨ n = -7 ∨ n = -8 by omega) with rfl | rfl | rfl | rfl | rfl | rfl | rfl | rfl <;> rfl
theorem sok_mk {c v n o a b : Int} (h : sok c v n o a b = true) : 1 ≤ c ∧ c ≤ 6 := by have := sok_kind h; omega
theorem kw_inj {c d : Int} (hc : 1 ≤ c ∧ c ≤ 6) (hd : 1 ≤ d ∧ d ≤ 6) (h : kw c = kw d) : c = d := by
  rcases (show c = 1 ∨ c = 2 ∨ c = 3 ∨ c = 4 ∨ c = 5 ∨ c = 6 by omega) with rfl | rfl | rfl | rfl | rfl | rfl <;>
  rcases (show d = 1 ∨ d = 2 ∨ d = 3 ∨ d = 4 ∨ d = 5 ∨ d = 6 by omega) with rfl | rfl | rfl | rfl | rfl | rfl <;>
  first | rfl | (exact absurd h (by decide))
theorem mkS_kind (c z0 z1 z2 z3 : Int) : (mkS c z0 z1 z2 z3).1 = c := by
  unfold mkS
  split; · simp_all
  split; · simp_all
  split; · simp_all
  split; · simp_all
  split; · simp_all
  rfl
/-- The pieces of a text that a statement has. -/
theorem good_cut {T : List UInt8} {x : Int × Int × Int × Int × Int × Int} (h : good T x = true) : (1 ≤ x.1 ∧ x.1 ≤ 6) ∧ cutGo 32 [] T = kw x.1 :: (nums x.1 x.2.1 x.2.2.1 x.2.2.2.1 x.2.2.2.2.1 x.2.2.2.2.2).map Lib.itoa ∧ ∀ n ∈ nums x.1 x.2.1 x.2.2.1 x.2.2.2.1 x.2.2.2.2.1 x.2.2.2.2.2, -8 ≤ n ∧ n ≤ 999 := by
  unfold good at h
  rw [Bool.and_eq_true, decide_eq_true_eq] at h
  refine ⟨sok_mk h.1, ?_, nums_small h.1⟩
  rw [← h.2]
  exact canon_cut _ _ _ _ _ _
theorem good_kind {T : List UInt8} {x y : Int × Int × Int × Int × Int × Int} (h : good T x = true) (k : good T y = true) : x.1 = y.1 := by
  have h1 := good_cut h
  have h2 := good_cut k
  have e := h1.2.1.symm.trans h2.2.1
  exact kw_inj h1.1 h2.1 (List.cons.inj e).1
/-- What a parse gives of a statement. -/
def ans (x : Int × Int × Int × Int × Int × Int) : Int × Int × Int × Int × Int × Int × Bool := (x.1, x.2.1, x.2.2.1, x.2.2.2.1, x.2.2.2.2.1, x.2.2.2.2.2, true)
/-- The number behind the j-th word. -/
def zat (s : ByteArray) (j : Nat) : Int := impl_parseStmt.atv ((impl_parseStmt.wsOf s).getD j ByteArray.empty)
theorem fill_mk (ws : List ByteArray) (K : Int) : impl_parseStmt.fill ws (impl_parseStmt.offs1 K ++ impl_parseStmt.offs2 K ++ impl_parseStmt.offs3 K) 0 [K, 0, 0, 0, 0, 0] = [(mkS K (impl_parseStmt.atv (ws.getD 1 ByteArray.empty)) (impl_parseStmt.atv (ws.getD 2 ByteArray.empty)) (impl_parseStmt.atv (ws.getD 3 ByteArray.empty)) (impl_parseStmt.atv (ws.getD 4 ByteArray.empty))).1, (mkS K (impl_parseStmt.atv (ws.getD 1 ByteArray.empty)) (impl_parseStmt.atv (ws.getD 2 ByteArray.empty)) (impl_parseStmt.atv (ws.getD 3 ByteArray.empty)) (impl_parseStmt.atv (ws.getD 4 ByteArray.empty))).2.1, (mkS K (impl_parseStmt.atv (ws.getD 1 ByteArray.empty)) (impl_parseStmt.atv (ws.getD 2 ByteArray.empty)) (impl_parseStmt.atv (ws.getD 3 ByteArray.empty)) (impl_parseStmt.atv (ws.getD 4 ByteArray.empty))).2.2.1, (mkS K (impl_parseStmt.atv (ws.getD 1 ByteArray.empty)) (impl_parseStmt.atv (ws.getD 2 ByteArray.empty)) (impl_parseStmt.atv (ws.getD 3 ByteArray.empty)) (impl_parseStmt.atv (ws.getD 4 ByteArray.empty))).2.2.2.1, (mkS K (impl_parseStmt.atv (ws.getD 1 ByteArray.empty)) (impl_parseStmt.atv (ws.getD 2 ByteArray.empty)) (impl_parseStmt.atv (ws.getD 3 ByteArray.empty)) (impl_parseStmt.atv (ws.getD 4 ByteArray.empty))).2.2.2.2.1, (mkS K (impl_parseStmt.atv (ws.getD 1 ByteArray.empty)) (impl_parseStmt.atv (ws.getD 2 ByteArray.empty)) (impl_parseStmt.atv (ws.getD 3 ByteArray.empty)) (impl_parseStmt.atv (ws.getD 4 ByteArray.empty))).2.2.2.2.2] := by
  by_cases h1 : K = 1; · subst h1; rfl
  by_cases h2 : K = 2; · subst h2; rfl
  by_cases h3 : K = 3; · subst h3; rfl
  by_cases h4 : K = 4; · subst h4; rfl
  by_cases h5 : K = 5; · subst h5; rfl
  unfold impl_parseStmt.offs1 impl_parseStmt.offs2 impl_parseStmt.offs3 mkS
  simp [h1, h2, h3, h4, h5, impl_parseStmt.fill]
theorem canon_ne (c v n o a b : Int) : canon c v n o a b ≠ [] := by
  have hk : kw c ≠ [] := by
    unfold kw
    repeat' split
    all_goals decide
  unfold canon
  intro e
  exact hk (List.append_eq_nil_iff.1 e).1
theorem iparse (s : ByteArray) (hs : s.size < 4294967281) (k : Nat) (hk : 20 ≤ k) :
    impl_parseStmt.f k s = some (if Lib.countB s ⟨#[32]⟩ = (impl_parseStmt.offs1 (impl_parseStmt.kindOf s) ++ impl_parseStmt.offs2 (impl_parseStmt.kindOf s) ++ impl_parseStmt.offs3 (impl_parseStmt.kindOf s)).length ∧ good s.data.toList (mkS (impl_parseStmt.kindOf s) (zat s 1) (zat s 2) (zat s 3) (zat s 4)) = true then ans (mkS (impl_parseStmt.kindOf s) (zat s 1) (zat s 2) (zat s 3) (zat s 4)) else (0, 0, 0, 0, 0, 0, false)) := by
  unfold impl_parseStmt.f
  rw [if_pos hs]
  by_cases h : Lib.countB s ⟨#[32]⟩ = (impl_parseStmt.offs1 (impl_parseStmt.kindOf s) ++ impl_parseStmt.offs2 (impl_parseStmt.kindOf s) ++ impl_parseStmt.offs3 (impl_parseStmt.kindOf s)).length
  · rw [if_pos h, fill_mk]
    have ez : ∀ j, impl_parseStmt.atv ((impl_parseStmt.wsOf s).getD j ByteArray.empty) = zat s j := fun _ => rfl
    rw [ez, ez, ez, ez]
    generalize mkS (impl_parseStmt.kindOf s) (zat s 1) (zat s 2) (zat s 3) (zat s 4) = x
    obtain ⟨c, v, n, o, a, b⟩ := x
    show (impl_FormatStmt.f k c v n o a b).bind _ = _
    rw [iformat c v n o a b k hk]
    simp only [Option.bind_some, h, true_and]
    unfold good
    have hn : ∀ l : List UInt8, (tx l).toList = l := fun l => by rw [ByteArray.toList_eq]; rfl
    by_cases g : sok c v n o a b = true
    · simp only [g, if_true, Bool.true_and, decide_eq_true_eq, hn, canon_ne, if_false, ByteArray.toList_eq, ans]
      split <;> rfl
    · simp [g, hn]
  · rw [if_neg h, if_neg (fun z => h z.1)]
theorem ws_cut (s : ByteArray) : (impl_parseStmt.wsOf s).map (·.data.toList) = cutGo 32 [] s.data.toList := splitB_cut s 32
theorem ws_tx {s : ByteArray} {l : List (List UInt8)} (h : cutGo 32 [] s.data.toList = l) : impl_parseStmt.wsOf s = l.map tx := by
  rw [← h, ← ws_cut, List.map_map]
  conv => lhs; rw [← List.map_id (impl_parseStmt.wsOf s)]
  apply List.map_congr_left
  intro x _
  exact (tx_back x).symm
theorem countB_cut (s : ByteArray) : Lib.countB s ⟨#[32]⟩ + 1 = (cutGo 32 [] s.data.toList).length := by
  rw [cut_len]
  congr 1
  exact Lib.count_one 32 s.data.toList
theorem atv_itoa (n : Int) (h0 : -8 ≤ n) (h1 : n ≤ 999) : impl_parseStmt.atv (tx (Lib.itoa n)) = n := by
  unfold impl_parseStmt.atv
  rw [tx_list, itoa_small n h0 h1]
theorem kind_kw (s : ByteArray) (c : Int) (hc : 1 ≤ c ∧ c ≤ 6) (r : List (List UInt8)) (h : cutGo 32 [] s.data.toList = kw c :: r) : impl_parseStmt.kindOf s = c := by
  unfold impl_parseStmt.kindOf
  rw [ws_tx h]
  rcases (show c = 1 ∨ c = 2 ∨ c = 3 ∨ c = 4 ∨ c = 5 ∨ c = 6 by omega) with rfl | rfl | rfl | rfl | rfl | rfl <;> rfl
/-- A statement's text is parsed by the program. -/
theorem ipar_good (s : ByteArray) (hs : s.size < 4294967281) (c z0 z1 z2 z3 : Int) (h : good s.data.toList (mkS c z0 z1 z2 z3) = true) (k : Nat) (hk : 20 ≤ k) : impl_parseStmt.f k s = some (ans (mkS c z0 z1 z2 z3)) := by
  have hg := good_cut h
  have hK : impl_parseStmt.kindOf s = c := by
    have := kind_kw s _ hg.1 _ hg.2.1
    rwa [mkS_kind] at this
  have hw := ws_tx hg.2.1
  have hcnt := countB_cut s
  rw [hg.2.1, List.length_cons, List.length_map] at hcnt
  have hc := hg.1
  rw [mkS_kind] at hc
  have ha := fun n hn => atv_itoa n (hg.2.2 n hn).1 (hg.2.2 n hn).2
  have hz : Lib.countB s ⟨#[32]⟩ = (impl_parseStmt.offs1 c ++ impl_parseStmt.offs2 c ++ impl_parseStmt.offs3 c).length ∧ mkS c (zat s 1) (zat s 2) (zat s 3) (zat s 4) = mkS c z0 z1 z2 z3 := by
    unfold zat
    rw [hw]
    rcases (show c = 1 ∨ c = 2 ∨ c = 3 ∨ c = 4 ∨ c = 5 ∨ c = 6 by omega) with rfl | rfl | rfl | rfl | rfl | rfl <;>
      simp [mkS, nums] at hcnt ha ⊢ <;> simp [impl_parseStmt.offs1, impl_parseStmt.offs2, impl_parseStmt.offs3, List.getD, hcnt, ha]
  rw [iparse s hs k hk, hK, hz.2, if_pos ⟨hz.1, h⟩]
theorem ipar_none (s : ByteArray) (hs : s.size < 4294967281) (h : ∀ c z0 z1 z2 z3, good s.data.toList (mkS c z0 z1 z2 z3) = false) (k : Nat) (hk : 20 ≤ k) : impl_parseStmt.f k s = some (0, 0, 0, 0, 0, 0, false) := by
  rw [iparse s hs k hk, if_neg (fun z => by rw [h] at z; exact Bool.false_ne_true z.2)]
/-- A valid statement is what its word and its numbers spell. -/
theorem sok_mkS {c v n o a b : Int} (h : sok c v n o a b = true) : ∃ z0 z1 z2 z3, (c, v, n, o, a, b) = mkS c z0 z1 z2 z3 := by
  rcases sok_kind h with rfl | rfl | rfl | rfl | rfl | rfl
  · refine ⟨v, o, a, b, ?_⟩; simp [sok] at h; simp [mkS, h]
  · refine ⟨v, n, 0, 0, ?_⟩; simp [sok, zok] at h; simp [mkS, h]
  · refine ⟨o, a, b, 0, ?_⟩; simp [sok] at h; simp [mkS, h]
  · refine ⟨o, a, b, 0, ?_⟩; simp [sok] at h; simp [mkS, h]
  · refine ⟨n, 0, 0, 0, ?_⟩; simp [sok, zok] at h; simp [mkS, h]
  · refine ⟨0, 0, 0, 0, ?_⟩; simp [sok, zok] at h; simp [mkS, h]
/-- The text T is the task line of these numbers, and they are a valid expression. -/
def goodT (T : List UInt8) (o a b : Int) : Bool := eok o a b && decide (tln (⟨[], ⟨o, a, b⟩⟩ : S99) = T)
theorem tln_cut (s : S99) : cutGo 32 [] (tln s) = [116, 97, 115, 107] :: [s.f1.f0, s.f1.f1, s.f1.f2].map Lib.itoa := by
  unfold tln
  have e : [s.f1.f0, s.f1.f1, s.f1.f2].flatMap spn = ([s.f1.f0, s.f1.f1, s.f1.f2].map Lib.itoa).flatMap (fun x => 32 :: x) := by
    rw [List.flatMap_map]; rfl
  rw [e]
  refine cut_words 32 _ _ (by decide) ?_
  intro x hx b hb
  obtain ⟨n, -, rfl⟩ := List.mem_map.1 hx
  exact itoa_no32 n b hb
theorem goodT_cut {T : List UInt8} {o a b : Int} (h : goodT T o a b = true) : ((1 ≤ o ∧ o ≤ 7) ∧ (-8 ≤ a ∧ a ≤ 999) ∧ (-8 ≤ b ∧ b ≤ 999)) ∧ cutGo 32 [] T = [[116, 97, 115, 107], Lib.itoa o, Lib.itoa a, Lib.itoa b] := by
  unfold goodT at h
  rw [Bool.and_eq_true, decide_eq_true_eq] at h
  refine ⟨eok_in h.1, ?_⟩
  rw [← h.2]
  exact tln_cut _
/-- The number behind the j-th word of a line. -/
def vat (l : List UInt8) (j : Nat) : Int := impl_parseTaskLine.at (tx l) j
theorem goodT_vat {T : List UInt8} {o a b : Int} (h : goodT T o a b = true) : vat T 1 = o ∧ vat T 2 = a ∧ vat T 3 = b ∧ Lib.countB (tx T) ⟨#[32]⟩ = 3 := by
  obtain ⟨⟨h1, h2, h3⟩, hc⟩ := goodT_cut h
  have hw : impl_parseStmt.wsOf (tx T) = _ := ws_tx (s := tx T) hc
  have hn := countB_cut (tx T)
  rw [tx_list, hc] at hn
  unfold vat impl_parseTaskLine.at
  rw [hw]
  refine ⟨atv_itoa o (by omega) (by omega), atv_itoa a (by omega) (by omega), atv_itoa b (by omega) (by omega), ?_⟩
  simp at hn
  exact hn
/-- The expression of a task line. -/
def headL (l : List UInt8) : Option S25 := if goodT l (vat l 1) (vat l 2) (vat l 3) = true then some ⟨vat l 1, vat l 2, vat l 3⟩ else none
theorem head_good {T : List UInt8} {o a b : Int} (h : goodT T o a b = true) : headL T = some ⟨o, a, b⟩ := by
  obtain ⟨e1, e2, e3, -⟩ := goodT_vat h
  unfold headL
  rw [e1, e2, e3, if_pos h]
theorem head_none {T : List UInt8} (h : ∀ o a b, goodT T o a b = false) : headL T = none := by
  unfold headL
  rw [h, if_neg Bool.false_ne_true]
theorem head_some {T : List UInt8} {e : S25} (h : headL T = some e) : goodT T e.f0 e.f1 e.f2 = true := by
  unfold headL at h
  by_cases c : goodT T (vat T 1) (vat T 2) (vat T 3) = true
  · rw [if_pos c] at h
    obtain rfl := Option.some.inj h
    exact c
  · rw [if_neg c] at h; cases h
theorem head_tells (l : List UInt8) (hl : l.length < 4294967281) (k : Nat) (hk : 20 ≤ k) : ∃ o a b, impl_parseTaskLine.f k (tx l) = some (match headL l with | some e => (e.f0, e.f1, e.f2, true) | none => (o, a, b, false)) := by
  have hv : ∀ j, impl_parseTaskLine.at (tx l) j = vat l j := fun _ => rfl
  unfold impl_parseTaskLine.f
  rw [if_pos (by rw [tx_size]; exact hl)]
  simp only [hv]
  have hb : ∀ x y : List UInt8, ((tx x).toList == (tx y).toList) = decide (x = y) := by
    intro x y
    rw [ByteArray.toList_eq, ByteArray.toList_eq, tx_list, tx_list]
    by_cases z : x = y
    · rw [z]; simp
    · rw [decide_eq_false z]; exact beq_eq_false_iff_ne.mpr z
  by_cases hc : Lib.countB (tx l) ⟨#[32]⟩ = 3
  · rw [if_pos hc, iexpr]
    simp only [Option.bind_some]
    refine ⟨vat l 1, vat l 2, vat l 3, ?_⟩
    by_cases he : eok (vat l 1) (vat l 2) (vat l 3) = true
    · have ht := taskLine_tells (⟨[], ⟨vat l 1, vat l 2, vat l 3⟩⟩ : S99) he k (by omega)
      rw [he, if_pos rfl]
      simp only at ht
      rw [ht]
      simp only [Option.bind_some, hb]
      unfold headL goodT
      rw [he, Bool.true_and]
      by_cases z : tln (⟨[], ⟨vat l 1, vat l 2, vat l 3⟩⟩ : S99) = l
      · rw [decide_eq_true z, if_pos rfl]
      · rw [decide_eq_false z, if_neg Bool.false_ne_true]
    · rw [if_neg he]
      have hn : headL l = none := by
        unfold headL goodT
        rw [Bool.eq_false_iff.mpr he, Bool.false_and, if_neg Bool.false_ne_true]
      rw [hn]
  · rw [if_neg hc]
    refine ⟨0, 0, 0, ?_⟩
    have hn : headL l = none := head_none (fun o a b => by
      cases e : goodT l o a b with
      | false => rfl
      | true => exact absurd (goodT_vat e).2.2.2 hc)
    rw [hn]
/-- The statement of a line. -/
def stmtL (l : List UInt8) : Option S27 :=
  if good l (mkS (impl_parseStmt.kindOf (tx l)) (zat (tx l) 1) (zat (tx l) 2) (zat (tx l) 3) (zat (tx l) 4)) = true then
    some ⟨(mkS (impl_parseStmt.kindOf (tx l)) (zat (tx l) 1) (zat (tx l) 2) (zat (tx l) 3) (zat (tx l) 4)).1, (mkS (impl_parseStmt.kindOf (tx l)) (zat (tx l) 1) (zat (tx l) 2) (zat (tx l) 3) (zat (tx l) 4)).2.1, (mkS (impl_parseStmt.kindOf (tx l)) (zat (tx l) 1) (zat (tx l) 2) (zat (tx l) 3) (zat (tx l) 4)).2.2.1, ⟨(mkS (impl_parseStmt.kindOf (tx l)) (zat (tx l) 1) (zat (tx l) 2) (zat (tx l) 3) (zat (tx l) 4)).2.2.2.1, (mkS (impl_parseStmt.kindOf (tx l)) (zat (tx l) 1) (zat (tx l) 2) (zat (tx l) 3) (zat (tx l) 4)).2.2.2.2.1, (mkS (impl_parseStmt.kindOf (tx l)) (zat (tx l) 1) (zat (tx l) 2) (zat (tx l) 3) (zat (tx l) 4)).2.2.2.2.2⟩⟩
  else none
/-- What a parse tells of a line. -/
def ansS (o : Option S27) : Int × Int × Int × Int × Int × Int × Bool := match o with
  | some s => (s.f0, s.f1, s.f2, s.f3.f0, s.f3.f1, s.f3.f2, true)
  | none => (0, 0, 0, 0, 0, 0, false)
theorem ansS_inj {o p : Option S27} (h : ansS o = ansS p) : o = p := by
  cases o with
  | none => cases p with
    | none => rfl
    | some s => simp [ansS] at h
  | some s => cases p with
    | none => simp [ansS] at h
    | some t =>
      obtain ⟨a0, a1, a2, b0, b1, b2⟩ := s
      obtain ⟨c0, c1, c2, d0, d1, d2⟩ := t
      simp [ansS] at h
      obtain ⟨rfl, rfl, rfl, rfl, rfl, rfl⟩ := h
      rfl
theorem stmt_tells (l : List UInt8) (hl : l.length < 4294967281) (k : Nat) (hk : 20 ≤ k) : impl_parseStmt.f k (tx l) = some (ansS (stmtL l)) := by
  have hz : (tx l).size < 4294967281 := by rw [tx_size]; exact hl
  unfold stmtL
  by_cases g : good l (mkS (impl_parseStmt.kindOf (tx l)) (zat (tx l) 1) (zat (tx l) 2) (zat (tx l) 3) (zat (tx l) 4)) = true
  · rw [if_pos g]
    exact ipar_good (tx l) hz _ _ _ _ _ g k hk
  · rw [if_neg g, iparse (tx l) hz k hk, if_neg (fun z => g z.2)]
    rfl
theorem stmt_good {T : List UInt8} (hl : T.length < 4294967281) {s : S27} (h : good T (s.f0, s.f1, s.f2, s.f3.f0, s.f3.f1, s.f3.f2) = true) : stmtL T = some s := by
  obtain ⟨z0, z1, z2, z3, e⟩ := sok_mkS (show sok s.f0 s.f1 s.f2 s.f3.f0 s.f3.f1 s.f3.f2 = true by unfold good at h; rw [Bool.and_eq_true] at h; exact h.1)
  rw [e] at h
  have h1 := ipar_good (tx T) (by rw [tx_size]; exact hl) _ _ _ _ _ h 20 (Nat.le_refl _)
  rw [stmt_tells T hl 20 (Nat.le_refl _), ← e] at h1
  exact ansS_inj (Option.some.inj h1)
theorem stmt_some {T : List UInt8} {s : S27} (h : stmtL T = some s) : good T (s.f0, s.f1, s.f2, s.f3.f0, s.f3.f1, s.f3.f2) = true := by
  unfold stmtL at h
  by_cases g : good T (mkS (impl_parseStmt.kindOf (tx T)) (zat (tx T) 1) (zat (tx T) 2) (zat (tx T) 3) (zat (tx T) 4)) = true
  · rw [if_pos g] at h
    obtain rfl := Option.some.inj h
    exact g
  · rw [if_neg g] at h; cases h
/-- A program's last task takes a statement more. -/
def addS (st : List S99) (s : S27) : List S99 := if st.length = 0 then st else st.set (st.length - 1) ⟨(rd_T99 st ((st.length : Int) - 1)).f0 ++ [s], (rd_T99 st ((st.length : Int) - 1)).f1⟩
/-- What becomes of the tasks behind the last line. -/
def fink (T : List UInt8) (st : List S99) : List S99 × Int := if pok st = true ∧ ptxt st = T then (st, 0) else ([], -2)
/-- A text's lines, one after the other. -/
def run (T : List UInt8) : List (List UInt8) → Int → List S99 → List S99 × Int
  | [], _, st => fink T st
  | l :: ls, i, st => match headL l with
    | some e => run T ls (i + 1) (st ++ [⟨[], e⟩])
    | none => match stmtL l with
      | none => ([], i + 1)
      | some s => run T ls (i + 1) (addS st s)
theorem addS_len (st : List S99) (s : S27) : (addS st s).length = st.length := by
  unfold addS
  split
  · rfl
  · rw [List.length_set]
theorem rd_mem62 (st : List S99) (j : Nat) (h : j < st.length) : rd_T99 st (j : Int) ∈ st := by
  unfold rd_T99
  rw [Int.toNat_natCast, List.getD_eq_getElem?_getD, List.getElem?_eq_getElem h]
  exact List.getElem_mem h
theorem addS_body (st : List S99) (s : S27) (n : Nat) (h : ∀ t ∈ st, t.f0.length ≤ n) : ∀ t ∈ addS st s, t.f0.length ≤ n + 1 := by
  unfold addS
  split
  · intro t ht; have := h t ht; omega
  · rename_i h0
    intro t ht
    rcases List.mem_or_eq_of_mem_set ht with z | z
    · have := h t z; omega
    · rw [z]
      have hm := rd_mem62 st (st.length - 1) (by omega)
      rw [show ((st.length - 1 : Nat) : Int) = (st.length : Int) - 1 by omega] at hm
      have := h _ hm
      simp; omega
theorem ptxt_ne {st : List S99} (h : pok st = true) : ptxt st ≠ [] := by
  have := (pok_all h).2.1
  cases st with
  | nil => simp at this
  | cons s t => simp [ptxt, tln]
theorem rdOf_tx (pre : List (List UInt8)) (l : List UInt8) (u : List (List UInt8)) : rdOf ByteArray.empty ((pre ++ l :: u).map tx) (pre.length : Int) = tx l := by
  unfold Go.Proofs.YtcpmkcidehhbiaaDoorW.PrintWords.rdOf
  simp [List.getD]
theorem pl0 (s : ByteArray) (ls : List (List UInt8)) (hls : ls.length ≤ 30000) (hz : ∀ l ∈ ls, l.length < 4294967281) : ∀ (u pre : List (List UInt8)) (k : Nat) (st : List S99), ls = pre ++ u → st.length ≤ pre.length → (∀ t ∈ st, t.f0.length ≤ pre.length) → u.length + 5000000 ≤ k →
    impl_ParseProgram.l0 k s (ls.map tx) ((ls.map tx).length : Int) (pre.length : Int) st = some (run s.data.toList u (pre.length : Int) st) := by
  intro u
  induction u with
  | nil =>
    intro pre k st e h1 h2 hk
    obtain ⟨k, rfl⟩ : ∃ m, k = m + 1 := ⟨k - 1, by omega⟩
    have hl : ls.length = pre.length := by rw [e]; simp
    simp only [impl_ParseProgram.l0]
    rw [if_neg (by rw [List.length_map]; omega), iptext st ⟨by omega, fun t ht => by have := h2 t ht; omega⟩ k (by omega)]
    simp only [Option.bind_some, run, fink]
    by_cases c : pok st = true
    · rw [if_pos c, if_neg (by rw [ByteArray.toList_eq]; exact ptxt_ne c)]
      by_cases d : ptxt st = s.data.toList
      · rw [if_pos (by rw [tl_eq]; exact d), if_pos ⟨c, d⟩]
      · rw [if_neg (by rw [tl_eq]; exact d), if_neg (fun z => d z.2)]
    · rw [if_neg c, if_pos (by rw [ByteArray.toList_eq]; rfl), if_neg (fun z => c z.1)]
  | cons l u ih =>
    intro pre k st e h1 h2 hk
    simp only [List.length_cons] at hk
    obtain ⟨k, rfl⟩ : ∃ m, k = m + 1 := ⟨k - 1, by omega⟩
    have hl : ls.length = pre.length + (u.length + 1) := by rw [e]; simp
    have hln := hz l (by rw [e]; simp)
    obtain ⟨o, a, b, ht⟩ := head_tells l hln k (by omega)
    have hst := stmt_tells l hln k (by omega)
    have hr : rdOf ByteArray.empty (ls.map tx) (pre.length : Int) = tx l := by rw [e]; exact rdOf_tx pre l u
    have i2 := fun st2 => ih (pre ++ [l]) k st2 (by rw [e]; simp)
    simp only [List.length_append, List.length_singleton] at i2
    have hi : wrap64 ((pre.length : Int) + 1) = ((pre.length + 1 : Nat) : Int) := by rw [w64 (by omega) (by omega)]; omega
    have hi2 : ((pre.length + 1 : Nat) : Int) = (pre.length : Int) + 1 := by omega
    simp only [impl_ParseProgram.l0]
    rw [if_pos (by rw [List.length_map]; omega), if_pos (by omega), if_pos (by rw [List.length_map]; omega), hr, ht, hst, hi]
    simp only [Option.bind_some, run]
    cases hh : headL l with
    | some x =>
      simp only [if_true]
      rw [if_pos (by omega), i2 _ (by simp; omega) (by
        intro t ht
        rcases List.mem_append.1 ht with z | z
        · have := h2 t z; omega
        · rw [List.mem_singleton.1 z]; simp) (by omega), hi2]
    | none =>
      rw [if_neg Bool.false_ne_true]
      cases hs : stmtL l with
      | none =>
        rw [if_neg (show ¬ (ansS none).2.2.2.2.2.2 = true from Bool.false_ne_true), hi2]
      | some x =>
        rw [if_pos (show (ansS (some x)).2.2.2.2.2.2 = true from rfl)]
        simp only [ansS]
        by_cases c : st.length = 0
        · rw [w64 (n := (st.length : Int) - 1) (by omega) (by omega), if_neg (by omega), i2 st (by omega) (fun t ht => by have := h2 t ht; omega) (by omega), hi2]
          have : addS st x = st := by unfold addS; rw [if_pos c]
          rw [this]
        · rw [w64 (n := (st.length : Int) - 1) (by omega) (by omega), if_pos (by omega), if_pos (by omega), if_pos (by omega)]
          have hm := rd_mem62 st (st.length - 1) (by omega)
          rw [show ((st.length - 1 : Nat) : Int) = (st.length : Int) - 1 by omega] at hm
          have hb := h2 _ hm
          rw [if_pos (by omega)]
          have ea : st.set ((st.length : Int) - 1).toNat (⟨(rd_T99 st ((st.length : Int) - 1)).f0 ++ [(⟨x.f0, x.f1, x.f2, (⟨x.f3.f0, x.f3.f1, x.f3.f2⟩ : S25)⟩ : S27)], (⟨(rd_T99 st ((st.length : Int) - 1)).f1.f0, (rd_T99 st ((st.length : Int) - 1)).f1.f1, (rd_T99 st ((st.length : Int) - 1)).f1.f2⟩ : S25)⟩ : S99) = addS st x := by
            unfold addS
            rw [if_neg c, show ((st.length : Int) - 1).toNat = st.length - 1 by omega]
          rw [ea, i2 (addS st x) (by rw [addS_len]; omega) (addS_body st x _ h2) (by omega), hi2]
/-- The lines of a text. -/
def linesL (T : List UInt8) : List (List UInt8) := if (cutGo 10 [] T).getD ((cutGo 10 [] T).length - 1) [] = [] then (cutGo 10 [] T).take ((cutGo 10 [] T).length - 1) else cutGo 10 [] T
theorem pieces_tx (T : List UInt8) : impl_linesOf.pieces (tx T) = (cutGo 10 [] T).map tx := by
  have h := splitB_cut (tx T) 10
  rw [tx_list] at h
  rw [← h, List.map_map]
  conv => lhs; rw [← List.map_id (impl_linesOf.pieces (tx T))]
  apply List.map_congr_left
  intro x _
  exact (tx_back x).symm
theorem lines_tells (T : List UInt8) (hT : T.length < 4294967281) : impl_linesOf.f (tx T) = some ((linesL T).map tx) := by
  have hc : Lib.countB (tx T) ⟨#[10]⟩ + 1 = (cutGo 10 [] T).length := by
    rw [cut_len]
    congr 1
    exact Lib.count_one 10 (tx T).data.toList
  have hn : Lib.countB (tx T) ⟨#[10]⟩ = (cutGo 10 [] T).length - 1 := by omega
  unfold impl_linesOf.f linesL
  rw [if_pos (by rw [tx_size]; exact hT), pieces_tx, hn]
  have hg : (((cutGo 10 [] T).map tx).getD ((cutGo 10 [] T).length - 1) ByteArray.empty).toList = (cutGo 10 [] T).getD ((cutGo 10 [] T).length - 1) [] := by
    rw [ByteArray.toList_eq, List.getD_eq_getElem?_getD, List.getD_eq_getElem?_getD, List.getElem?_map, List.getElem?_eq_getElem (by omega)]
    rfl
  rw [hg]
  split
  · rw [List.map_take]
  · rfl
theorem cutGo_sum (c : UInt8) : ∀ (l cur : List UInt8), ∀ x ∈ cutGo c cur l, x.length ≤ cur.length + l.length
  | [], cur => by simp [cutGo]
  | b :: l, cur => by
    intro x hx
    unfold cutGo at hx
    by_cases h : b = c
    · rw [if_pos h] at hx
      rcases List.mem_cons.1 hx with z | z
      · rw [z]; omega
      · have := cutGo_sum c l [] x z; simp at this ⊢; omega
    · rw [if_neg h] at hx
      have := cutGo_sum c l _ x hx; simp at this ⊢; omega
theorem lines_in (T : List UInt8) : (linesL T).length ≤ T.length + 1 ∧ ∀ l ∈ linesL T, l.length ≤ T.length := by
  have h1 : (cutGo 10 [] T).length ≤ T.length + 1 := by rw [cut_len]; have := List.count_le_length (a := (10 : UInt8)) (l := T); omega
  have h2 := cutGo_sum 10 T []
  unfold linesL
  split
  · refine ⟨by rw [List.length_take]; omega, fun l hl => ?_⟩
    have := h2 l (List.mem_of_mem_take hl); simpa using this
  · exact ⟨h1, fun l hl => by have := h2 l hl; simpa using this⟩
/-- The program's parse of a text. -/
theorem iparseP (T : List UInt8) (k : Nat) (hk : 6000000 ≤ k) : impl_ParseProgram.f k (tx T) = some (if 20000 < T.length then ([], -1) else run T (linesL T) 0 []) := by
  unfold impl_ParseProgram.f
  rw [tx_size]
  by_cases c : 20000 < T.length
  · rw [if_pos (by omega), if_pos c]
  · rw [if_neg (by omega), if_neg c, lines_tells T (by omega)]
    simp only [Option.bind_some]
    have hi := lines_in T
    have h := pl0 (tx T) (linesL T) (by omega) (fun l hl => by have := hi.2 l hl; omega) (linesL T) [] k [] rfl (by simp) (by simp) (by omega)
    exact h
theorem scan_ok : ∀ (l : List S27) (d : Int) (x : Int), scan l d = some x → ∀ s ∈ l, okS s = true
  | [], _, _, _ => by simp
  | s :: t, d, x, h => by
    unfold scan at h
    by_cases c : okS s = true
    · rw [if_pos c] at h
      by_cases e : 0 ≤ d + del s ∧ d + del s ≤ 3
      · rw [if_pos e] at h
        intro y hy
        rcases List.mem_cons.1 hy with z | z
        · rw [z]; exact c
        · exact scan_ok t _ x h y z
      · rw [if_neg e] at h; cases h
    · rw [if_neg c] at h; cases h
theorem blk_ok {l : List S27} (h : blk l = true) : ∀ s ∈ l, okS s = true := by
  unfold blk fin at h
  rw [Bool.and_eq_true, decide_eq_true_eq] at h
  exact scan_ok l 0 0 h.1
theorem itoa_no10 (n : Int) : ∀ b ∈ Lib.itoa n, b ≠ 10 := by
  intro b hb
  unfold Lib.itoa at hb
  split at hb
  · rcases List.mem_cons.1 hb with e | hb
    · subst e; decide
    · have := dec_digit _ b hb
      intro e; subst e; simp at this
  · have := dec_digit _ b hb
    intro e; subst e; simp at this
theorem spn_no10 (ns : List Int) : ∀ b ∈ ns.flatMap spn, b ≠ 10 := by
  intro b hb
  obtain ⟨n, -, hb⟩ := List.mem_flatMap.1 hb
  unfold spn at hb
  rcases List.mem_cons.1 hb with e | hb
  · subst e; decide
  · exact itoa_no10 n b hb
theorem kw_no10 (c : Int) : ∀ b ∈ kw c, b ≠ 10 := by
  unfold kw
  repeat' split
  all_goals decide
theorem tln_no10 (s : S99) : ∀ b ∈ tln s, b ≠ 10 := by
  intro b hb
  unfold tln at hb
  rcases List.mem_append.1 hb with hb | hb
  · have h : ∀ x ∈ ([116, 97, 115, 107] : List UInt8), x ≠ 10 := by decide
    exact h b hb
  · exact spn_no10 _ b hb
theorem stx_no10 (s : S27) : ∀ b ∈ stx s, b ≠ 10 := by
  intro b hb
  unfold stx at hb
  split at hb
  · unfold canon at hb
    rcases List.mem_append.1 hb with hb | hb
    · exact kw_no10 _ b hb
    · exact spn_no10 _ b hb
  · cases hb
/-- A program's lines. -/
def lns (p : List S99) : List (List UInt8) := p.flatMap fun s => tln s :: s.f0.map stx
theorem lns_no10 (p : List S99) : ∀ l ∈ lns p, ∀ b ∈ l, b ≠ 10 := by
  intro l hl
  obtain ⟨s, -, hl⟩ := List.mem_flatMap.1 hl
  rcases List.mem_cons.1 hl with e | hl
  · rw [e]; exact tln_no10 s
  · obtain ⟨x, -, rfl⟩ := List.mem_map.1 hl
    exact stx_no10 x
theorem ptxt_lns (p : List S99) : ptxt p = (lns p).flatMap fun l => l ++ [10] := by
  induction p with
  | nil => rfl
  | cons s t ih =>
    have e1 : ptxt (s :: t) = ((tln s ++ [10]) ++ bodyT s.f0) ++ ptxt t := rfl
    have e2 : lns (s :: t) = (tln s :: s.f0.map stx) ++ lns t := rfl
    rw [e1, e2, List.flatMap_append, List.flatMap_cons, ih, List.flatMap_map]
    rfl
theorem cut_lines : ∀ ls : List (List UInt8), (∀ l ∈ ls, ∀ b ∈ l, b ≠ 10) → cutGo 10 [] (ls.flatMap fun l => l ++ [10]) = ls ++ [[]]
  | [], _ => rfl
  | l :: ls, h => by
    rw [List.flatMap_cons, List.append_assoc, List.singleton_append, cut_at 10 l [] _ (h l (by simp)), cut_lines ls (fun x hx => h x (by simp [hx]))]
    simp
theorem linesL_ptxt (p : List S99) : linesL (ptxt p) = lns p := by
  have h : cutGo 10 [] (ptxt p) = lns p ++ [[]] := by rw [ptxt_lns]; exact cut_lines _ (lns_no10 p)
  unfold linesL
  rw [h]
  simp [List.getD]
theorem head_canon {s : S27} (h : okS s = true) : headL (stx s) = none := by
  refine head_none (fun o a b => ?_)
  cases e : goodT (stx s) o a b with
  | false => rfl
  | true =>
    have hc := (goodT_cut e).2
    unfold stx at hc
    unfold okS at h
    rw [if_pos h, canon_cut] at hc
    have h1 := (List.cons.inj hc).1
    have hk := sok_mk h
    rcases (show s.f0 = 1 ∨ s.f0 = 2 ∨ s.f0 = 3 ∨ s.f0 = 4 ∨ s.f0 = 5 ∨ s.f0 = 6 by omega) with z | z | z | z | z | z <;> rw [z] at h1 <;> exact absurd h1 (by decide)
theorem stmt_stx {s : S27} (h : okS s = true) : stmtL (stx s) = some s := by
  refine stmt_good (by have := stx_len s; omega) ?_
  unfold okS at h
  unfold good stx
  rw [if_pos h, h]
  simp
theorem addS_last (pre : List S99) (t : S99) (s : S27) : addS (pre ++ [t]) s = pre ++ [⟨t.f0 ++ [s], t.f1⟩] := by
  unfold addS
  have hr : rd_T99 (pre ++ [t]) (((pre ++ [t]).length : Int) - 1) = t := by
    have := rd_app62 pre t []
    rw [List.length_append, List.length_singleton, show (((pre.length + 1 : Nat) : Int) - 1) = (pre.length : Int) by omega]
    exact this
  rw [if_neg (by simp), hr]
  simp
theorem run_body (T : List UInt8) (R : List (List UInt8)) (e : S25) : ∀ (b : List S27) (i : Int) (st : List S99) (acc : List S27), (∀ s ∈ b, okS s = true) → run T (b.map stx ++ R) i (st ++ [⟨acc, e⟩]) = run T R (i + b.length) (st ++ [⟨acc ++ b, e⟩])
  | [], i, st, acc, _ => by simp
  | s :: b, i, st, acc, h => by
    have h0 := h s (by simp)
    rw [List.map_cons, List.cons_append]
    simp only [run]
    rw [head_canon h0]
    simp only
    rw [stmt_stx h0]
    simp only
    rw [addS_last, run_body T R e b (i + 1) st (acc ++ [s]) (fun x hx => h x (by simp [hx]))]
    simp only [List.length_cons, List.append_assoc, List.singleton_append]
    congr 1
    omega
theorem run_prog (T : List UInt8) : ∀ (p st : List S99) (i : Int), (∀ t ∈ p, blk t.f0 = true ∧ eok t.f1.f0 t.f1.f1 t.f1.f2 = true) → run T (lns p) i st = fink T (st ++ p)
  | [], st, i, _ => by simp [lns, run]
  | t :: p, st, i, h => by
    have h0 := h t (by simp)
    have e2 : lns (t :: p) = tln t :: (t.f0.map stx ++ lns p) := rfl
    have hh : headL (tln t) = some t.f1 := head_good (by
      unfold goodT
      rw [h0.2, Bool.true_and]
      exact decide_eq_true rfl)
    rw [e2]
    simp only [run]
    rw [hh]
    simp only
    rw [run_body T (lns p) t.f1 t.f0 (i + 1) st [] (blk_ok h0.1), List.nil_append, run_prog T p _ _ (fun x hx => h x (by simp [hx]))]
    simp
theorem ptxt_len {p : List S99} (h : pok p = true) : (ptxt p).length ≤ 20000 := by
  have hp := pok_all h
  have : ∀ q : List S99, (∀ s ∈ q, s.f0.length ≤ 24 ∧ eok s.f1.f0 s.f1.f1 s.f1.f2 = true) → (ptxt q).length ≤ 2228 * q.length := by
    intro q
    induction q with
    | nil => intro _; simp [ptxt]
    | cons s q ih =>
      intro hq
      have h0 := hq s (by simp)
      have h1 := tln_len s h0.2
      have h2 := body_len s.f0
      have h3 := ih (fun x hx => hq x (by simp [hx]))
      have e1 : ptxt (s :: q) = ((tln s ++ [10]) ++ bodyT s.f0) ++ ptxt q := rfl
      rw [e1]
      simp only [List.length_append, List.length_cons, List.length_nil]
      omega
  have := this p (fun s hs => ⟨(hp.2.2 s hs).1, (hp.2.2 s hs).2.1⟩)
  omega
theorem FnProgramTexts : laws_FnProgramTexts.Pure := by
  intro l _ h2 _
  refine ⟨l.length + 9000000, ?_⟩
  unfold laws_FnProgramTexts.f laws_big.f
  simp only [Option.bind_some]
  by_cases c : (l.length : Int) > 1048576
  · rw [if_pos (decide_eq_true c)]
  · rw [if_neg (by simp; omega)]
    obtain ⟨p, ep, hp, hs⟩ := drawProg l (by omega)
    have ha := pok_all hp
    have hs1 := hs.1
    rw [ep _ (by omega)]
    simp only [Option.bind_some]
    rw [iptext p hs _ (by omega), if_pos hp]
    simp only [Option.bind_some]
    have hl := ptxt_len hp
    rw [iparseP (ptxt p) _ (by omega), if_neg (by omega), linesL_ptxt, run_prog (ptxt p) p [] 0 (fun t ht => ⟨(ha.2.2 t ht).2.2, (ha.2.2 t ht).2.1⟩), List.nil_append]
    have hf : fink (ptxt p) p = (p, 0) := by unfold fink; rw [if_pos ⟨hp, rfl⟩]
    rw [hf]
    simp only [Option.bind_some, if_true]
    rw [iptext p hs _ (by omega), if_pos hp]
    simp only [Option.bind_some, if_true]
    rw [iprog p hs _ (by omega), hp]
    simp only [Option.bind_some, if_true]
    have hn : (tx (ptxt p)).toList ≠ ([] : List UInt8) := by
      rw [ByteArray.toList_eq]; exact ptxt_ne hp
    rw [bne_iff_ne.mpr hn]

end Go.Proofs.YtcpmkcidehhbiaaDoor.Pure
