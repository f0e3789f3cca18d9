/- The program's FirstDiffering and the reference's return the same for all slices of integers, and leave them as they were; no condition. -/
import Derived.Test.YtakejkdkchlanaaPFnExactFirstDifferingx1
namespace Go.Proofs.Ytakejkdkchlanaa.Pure
open Go.RowKit Go.Proofs.Ytakejkdkchlanaa.PFnExactFirstDiffering Go.Proofs.YtakejkdkchlanaaW.PrintWords Go.Proofs.YtakejkdkchlanaaW.PrintLast
set_option linter.unusedVariables false
set_option linter.unusedSimpArgs false

theorem w64 {n : Int} (h1 : -9223372036854775808 ≤ n) (h2 : n ≤ 9223372036854775807) : wrap64 n = n := by unfold wrap64; omega
theorem w64_in (n : Int) : -9223372036854775808 ≤ wrap64 n ∧ wrap64 n ≤ 9223372036854775807 := by unfold wrap64; omega
theorem wf64 {n : Int} (h : (Lit.int .i64 n).wf = true) : -9223372036854775808 ≤ n ∧ n ≤ 9223372036854775807 := by
  simp only [Lit.wf, IntKind.min, IntKind.max, IntKind.signed, IntKind.bits, Bool.and_eq_true, decide_eq_true_eq, if_true] at h
  omega
theorem wfu8 {n : Int} (h : (Lit.int .u8 n).wf = true) : 0 ≤ n ∧ n ≤ 255 := by
  simp [Lit.wf, IntKind.min, IntKind.max, IntKind.signed, IntKind.bits] at h
  omega
theorem and_in (x : Int) (m : Nat) (hm : m < 9223372036854775808) : 0 ≤ Go.bits .and .i64 x (m : Int) ∧ Go.bits .and .i64 x (m : Int) ≤ m := by
  have h1 : (BitVec.ofInt 64 x &&& BitVec.ofInt 64 (m : Int)).toNat ≤ m := by
    rw [BitVec.toNat_and]
    refine Nat.le_trans Nat.and_le_right ?_
    rw [BitVec.ofInt_natCast, BitVec.toNat_ofNat]
    exact Nat.mod_le _ _
  have h2 : Go.bits .and .i64 x (m : Int) = IntKind.i64.wrap (((BitVec.ofInt 64 x &&& BitVec.ofInt 64 (m : Int)).toNat : Nat) : Int) := rfl
  rw [h2, Go.IntKind.wrap_i64]
  omega
theorem and255 (x : Int) : 0 ≤ Go.bits .and .i64 x 255 ∧ Go.bits .and .i64 x 255 ≤ 255 := and_in x 255 (by decide)
theorem tmod_in (x n : Int) (h0 : 0 ≤ x) (h : 1 ≤ n) : 0 ≤ Int.tmod x n ∧ Int.tmod x n < n := ⟨Int.tmod_nonneg _ h0, Int.tmod_lt_of_pos _ (by omega)⟩
theorem rd_get (xs : List Int) (i : Int) (h0 : 0 ≤ i) (h1 : i < (xs.length : Int)) : xs[i.toNat]? = some (rd xs i) := by
  have h : i.toNat < xs.length := by omega
  unfold Go.Proofs.YtakejkdkchlanaaW.PrintWords.rd
  rw [List.getD_eq_getElem?_getD, List.getElem?_eq_getElem h]
  rfl
theorem toInt_loop (l : List Int) (sz : (l.length : Int) ≤ 140737488351232) (d : Nat) : ∀ (k : Nat) (x : List Int) (i : Int), 0 ≤ i → i ≤ l.length → (l.length : Int) - i = d → d < k → x.length = l.length → (∀ j : Nat, (j : Int) < i → x[j]? = l[j]?) →
    laws_toIntS.l0 k l x i = some l := by
  induction d with
  | zero =>
    intro k x i h0 h1 hd hk hl hx
    obtain ⟨k, rfl⟩ : ∃ m, k = m + 1 := ⟨k - 1, by omega⟩
    simp only [laws_toIntS.l0]
    rw [if_neg (by omega)]
    congr 1
    apply List.ext_getElem?
    intro j
    by_cases hj : (j : Int) < i
    · exact hx j hj
    · rw [List.getElem?_eq_none (by omega), List.getElem?_eq_none (by omega)]
  | succ d ih =>
    intro k x i h0 h1 hd hk hl hx
    obtain ⟨k, rfl⟩ : ∃ m, k = m + 1 := ⟨k - 1, by omega⟩
    simp only [laws_toIntS.l0]
    rw [if_pos (by omega), if_pos h0, if_pos (by omega), w64 (n := i + 1) (by omega) (by omega)]
    refine ih k _ (i + 1) (by omega) (by omega) (by omega) (by omega) (by simp [hl]) ?_
    intro j hj
    by_cases e : (j : Int) = i
    · have e2 : j = i.toNat := by omega
      subst e2
      rw [rd_get l i h0 (by omega), List.getElem?_set_self (by omega)]
    · rw [List.getElem?_set_ne (by omega)]
      exact hx j (by omega)
theorem toInt_tells (l : List Int) (h : (l.length : Int) ≤ 1048576) : ∀ k, l.length < k → laws_toIntS.f k l = some l := by
  intro k hk
  unfold laws_toIntS.f
  rw [if_pos (by omega), if_pos (by omega)]
  exact toInt_loop l (by omega) l.length k _ 0 (by omega) (by omega) (by omega) hk (by simp) (fun j hj => by omega)
theorem eqInt_loop (l : List Int) (sz : (l.length : Int) ≤ 140737488351232) (d : Nat) : ∀ (k : Nat) (i : Int), 0 ≤ i → i ≤ l.length → (l.length : Int) - i = d → d < k → laws_eqIntS.l0 k l l i = some true := by
  induction d with
  | zero =>
    intro k i h0 h1 hd hk
    obtain ⟨k, rfl⟩ : ∃ m, k = m + 1 := ⟨k - 1, by omega⟩
    simp only [laws_eqIntS.l0]
    rw [if_neg (by omega)]
  | succ d ih =>
    intro k i h0 h1 hd hk
    obtain ⟨k, rfl⟩ : ∃ m, k = m + 1 := ⟨k - 1, by omega⟩
    simp only [laws_eqIntS.l0]
    rw [if_pos (by omega), if_pos h0, if_pos (by omega), if_pos trivial, w64 (n := i + 1) (by omega) (by omega)]
    exact ih k (i + 1) (by omega) (by omega) (by omega) (by omega)
theorem eqInt_self (l : List Int) (sz : (l.length : Int) ≤ 140737488351232) : ∀ k, l.length < k → laws_eqIntS.f k l l = some true := by
  intro k hk
  unfold laws_eqIntS.f
  rw [if_pos rfl]
  exact eqInt_loop l sz l.length k 0 (by omega) (by omega) (by omega) hk
theorem fd_loop (a b : List Int) (sa : (a.length : Int) ≤ 1048576) (sb : (b.length : Int) ≤ 1048576) (m : Int) (hm : m = (a.length : Int) ∧ a.length ≤ b.length ∨ m = (b.length : Int) ∧ b.length ≤ a.length) (d : Nat) : ∀ (k k' : Nat) (i : Int), 0 ≤ i → i ≤ m → m - i = d → d < k → 2 * d + 3 < k' →
    ∃ r, impl_FirstDiffering.l0 k a b m m i = some r ∧ spec_FirstDiffering.l0 k' a b i = some r := by
  induction d with
  | zero =>
    intro k k' i h0 h1 hd hk hk'
    obtain ⟨k, rfl⟩ : ∃ m, k = m + 1 := ⟨k - 1, by omega⟩
    obtain ⟨k', rfl⟩ : ∃ m, k' = m + 2 := ⟨k' - 2, by omega⟩
    have him : i = m := by omega
    subst him
    simp only [impl_FirstDiffering.l0, spec_FirstDiffering.l0, spec_FirstDiffering.j1]
    rw [if_neg (by omega)]
    by_cases he : (a.length : Int) = (b.length : Int)
    · refine ⟨-1, by rw [if_pos he], ?_⟩
      rw [if_neg (by omega), if_neg (by simp; omega)]
    · refine ⟨i, by rw [if_neg he], ?_⟩
      by_cases hi : i < (a.length : Int)
      · rw [if_pos hi, if_pos trivial, if_neg (by omega), if_pos (by omega)]
      · rw [if_neg hi, if_pos (by simp; omega), if_pos (by omega)]
  | succ d ih =>
    intro k k' i h0 h1 hd hk hk'
    obtain ⟨k, rfl⟩ : ∃ m, k = m + 1 := ⟨k - 1, by omega⟩
    obtain ⟨k', rfl⟩ : ∃ m, k' = m + 2 := ⟨k' - 2, by omega⟩
    simp only [impl_FirstDiffering.l0, spec_FirstDiffering.l0, spec_FirstDiffering.j1]
    rw [if_pos (show i < m by omega), if_pos h0, if_pos (show i < (a.length : Int) by omega), if_pos (show i < (b.length : Int) by omega)]
    rw [if_pos (by omega : i < (a.length : Int)), if_pos trivial, if_neg (show ¬ i ≥ (a.length : Int) by omega), if_neg (show ¬ i ≥ (b.length : Int) by omega), if_pos h0, if_pos (show i < (a.length : Int) by omega), if_pos (show i < (b.length : Int) by omega)]
    by_cases he : rd a i = rd b i
    · rw [if_pos he, if_pos he, w64 (n := i + 1) (by omega) (by omega)]
      exact ih k k' (i + 1) (by omega) (by omega) (by omega) (by omega) (by omega)
    · rw [if_neg he, if_neg he]
      exact ⟨i, rfl, rfl⟩
theorem FnExactFirstDiffering : laws_FnExactFirstDiffering.Pure := by
  intro a b _ _ _ _ _ _
  refine ⟨2 * (a.length + b.length) + 10, ?_⟩
  unfold laws_FnExactFirstDiffering.f
  by_cases ha : (a.length : Int) > 1048576
  · rw [if_pos ha]
  · rw [if_neg ha]
    by_cases hb : (b.length : Int) > 1048576
    · rw [if_pos hb]
    · rw [if_neg hb]
      rw [toInt_tells a (by omega) _ (by omega), toInt_tells b (by omega) _ (by omega)]
      simp only [Option.bind_some]
      have hm : mn (a.length : Int) (b.length : Int) = (a.length : Int) ∧ a.length ≤ b.length ∨ mn (a.length : Int) (b.length : Int) = (b.length : Int) ∧ b.length ≤ a.length := by
        unfold Go.Proofs.YtakejkdkchlanaaW.PrintWords.mn; omega
      obtain ⟨r, h1, h2⟩ := fd_loop a b (by omega) (by omega) _ hm (mn (a.length : Int) (b.length : Int)).toNat (2 * (a.length + b.length) + 10) (2 * (a.length + b.length) + 10) 0 (by omega) (by omega) (by omega) (by omega) (by omega)
      unfold impl_FirstDiffering.f spec_FirstDiffering.f
      rw [h1, h2]
      simp only [Option.bind_some, if_true]
      rw [eqInt_self a (by omega) _ (by omega)]
      simp only [Option.bind_some, if_true]
      rw [eqInt_self b (by omega) _ (by omega)]
      simp

end Go.Proofs.Ytakejkdkchlanaa.Pure
