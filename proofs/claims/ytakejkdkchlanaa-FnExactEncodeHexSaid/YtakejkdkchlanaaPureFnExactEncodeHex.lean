/- The program's EncodeHex and the reference's return the same for all texts; no condition. -/
import Derived.Test.YtakejkdkchlanaaPFnExactEncodeHexx1
namespace Go.Proofs.Ytakejkdkchlanaa.Pure
open Go.RowKit Go.Proofs.Ytakejkdkchlanaa.PFnExactEncodeHex Go.Proofs.YtakejkdkchlanaaW.PrintWords Go.Proofs.YtakejkdkchlanaaW.PrintLast
set_option linter.unusedVariables false
set_option linter.unusedSimpArgs false

theorem w64 {n : Int} (h1 : -9223372036854775808 ≤ n) (h2 : n ≤ 9223372036854775807) : wrap64 n = n := by unfold wrap64; omega
theorem w64_in (n : Int) : -9223372036854775808 ≤ wrap64 n ∧ wrap64 n ≤ 9223372036854775807 := by unfold wrap64; omega
theorem wf64 {n : Int} (h : (Lit.int .i64 n).wf = true) : -9223372036854775808 ≤ n ∧ n ≤ 9223372036854775807 := by
  simp only [Lit.wf, IntKind.min, IntKind.max, IntKind.signed, IntKind.bits, Bool.and_eq_true, decide_eq_true_eq, if_true] at h
  omega
theorem wfu8 {n : Int} (h : (Lit.int .u8 n).wf = true) : 0 ≤ n ∧ n ≤ 255 := by
  simp [Lit.wf, IntKind.min, IntKind.max, IntKind.signed, IntKind.bits] at h
  omega
theorem and_in (x : Int) (m : Nat) (hm : m < 9223372036854775808) : 0 ≤ Go.bits .and .i64 x (m : Int) ∧ Go.bits .and .i64 x (m : Int) ≤ m := by
  have h1 : (BitVec.ofInt 64 x &&& BitVec.ofInt 64 (m : Int)).toNat ≤ m := by
    rw [BitVec.toNat_and]
    refine Nat.le_trans Nat.and_le_right ?_
    rw [BitVec.ofInt_natCast, BitVec.toNat_ofNat]
    exact Nat.mod_le _ _
  have h2 : Go.bits .and .i64 x (m : Int) = IntKind.i64.wrap (((BitVec.ofInt 64 x &&& BitVec.ofInt 64 (m : Int)).toNat : Nat) : Int) := rfl
  rw [h2, Go.IntKind.wrap_i64]
  omega
theorem and255 (x : Int) : 0 ≤ Go.bits .and .i64 x 255 ∧ Go.bits .and .i64 x 255 ≤ 255 := and_in x 255 (by decide)
theorem tmod_in (x n : Int) (h0 : 0 ≤ x) (h : 1 ≤ n) : 0 ≤ Int.tmod x n ∧ Int.tmod x n < n := ⟨Int.tmod_nonneg _ h0, Int.tmod_lt_of_pos _ (by omega)⟩
def hx (x : Int) : Int := if x < 10 then 48 + x else 87 + x
theorem fig {x : Int} (h0 : 0 ≤ x) (h1 : x < 16) : spec_l01Figure.f x = some (hx x) := by
  unfold spec_l01Figure.f hx
  by_cases c : x < 10
  · rw [if_pos c, if_pos c, w64 (by omega) (by omega)]; congr 1; omega
  · rw [if_neg c, if_neg c, w64 (n := 97 + x) (by omega) (by omega), w64 (by omega) (by omega)]; congr 1; omega
theorem tab16 : ∀ n : Fin 16, bt (⟨#[48, 49, 50, 51, 52, 53, 54, 55, 56, 57, 97, 98, 99, 100, 101, 102]⟩ : ByteArray) (n.val : Int) = hx (n.val : Int) := by decide
theorem tab {x : Int} (h0 : 0 ≤ x) (h1 : x < 16) : bt (⟨#[48, 49, 50, 51, 52, 53, 54, 55, 56, 57, 97, 98, 99, 100, 101, 102]⟩ : ByteArray) x = hx x := by
  have h := tab16 ⟨x.toNat, by omega⟩
  have e : ((x.toNat : Nat) : Int) = x := Int.toNat_of_nonneg h0
  simp only [e] at h
  exact h
theorem loops (s : ByteArray) (sz : s.size ≤ 20000) (k : Nat) : ∀ (x : List Int) (i : Int), 0 ≤ i → i ≤ s.size → (s.size : Int) - i < k → (x.length : Int) ≤ 2 * i →
    ∃ r, spec_EncodeHex.l0 k s x i = some (r, true) ∧ impl_hexText.l0 k s x s.size i = some r := by
  induction k with
  | zero => intro x i h0 h1 h2 h3; omega
  | succ k ih =>
    intro x i h0 h1 h2 h3
    unfold spec_EncodeHex.l0 impl_hexText.l0
    by_cases c : i < (s.size : Int)
    · have hb := bt_range s i
      have a1 : 0 ≤ bt s i / 16 := by omega
      have a2 : bt s i / 16 < 16 := by omega
      have b1 : 0 ≤ bt s i % 16 := by omega
      have b2 : bt s i % 16 < 16 := by omega
      have e1 : Go.bits .and .u8 (bt s i) 15 = bt s i % 16 := u8_and15 (bt s i) hb.1 (by omega)
      have e2 : wrap64 (bt s i) = bt s i := w64 (by omega) (by omega)
      have e3 : Int.tdiv (bt s i) 16 = bt s i / 16 := Int.tdiv_eq_ediv_of_nonneg hb.1
      have e4 : Int.tmod (bt s i) 16 = bt s i % 16 := Int.tmod_eq_emod_of_nonneg hb.1
      rw [e1, e2, e3, e4, w64 (n := bt s i / 16) (by omega) (by omega), w64 (n := i + 1) (by omega) (by omega)]
      rw [if_pos c, if_pos c, if_pos h0, if_pos h0, if_pos c, if_pos a1, if_pos a2, if_pos b1, if_pos b2, fig a1 a2, fig b1 b2, tab a1 a2, tab b1 b2]
      simp only [Option.bind_some]
      rw [if_pos (show (x.length + [hx (bt s i / 16), hx (bt s i % 16)].length < 140737488355328) by simp; omega), if_pos (show (x.length + [hx (bt s i / 16), hx (bt s i % 16)].length < 140737488355328) by simp; omega)]
      exact ih _ _ (by omega) (by omega) (by omega) (by simp; omega)
    · rw [if_neg c, if_neg c]
      exact ⟨_, rfl, rfl⟩
theorem FnExactEncodeHex : laws_FnExactEncodeHex.Pure := by
  intro s hs
  refine ⟨s.size + 2, ?_⟩
  unfold laws_FnExactEncodeHex.f
  split
  · rfl
  · unfold spec_EncodeHex.f impl_EncodeHex.f
    by_cases c : (s.size : Int) > 20000
    · rw [if_pos c, if_pos c]; simp
    · rw [if_neg c, if_neg c]
      obtain ⟨r, h1, h2⟩ := loops s (by omega) (s.size + 2) [] 0 (by omega) (by omega) (by omega) (by simp)
      unfold impl_hexText.f
      rw [h1, h2, w64 (by omega) (by omega), if_pos (by omega), if_pos (by omega)]
      simp

end Go.Proofs.Ytakejkdkchlanaa.Pure
