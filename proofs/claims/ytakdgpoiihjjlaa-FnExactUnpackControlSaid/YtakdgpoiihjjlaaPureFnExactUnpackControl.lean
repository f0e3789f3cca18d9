/- The program's UnpackControl and the reference's return the same for every integer; no condition. -/
import Derived.Test.YtakdgpoiihjjlaaPFnExactUnpackControlx1
namespace Go.Proofs.Ytakdgpoiihjjlaa.Pure
open Go.RowKit Go.Proofs.Ytakdgpoiihjjlaa.PFnExactUnpackControl Go.Proofs.YtakdgpoiihjjlaaW.PrintWords Go.Proofs.YtakdgpoiihjjlaaW.PrintLast

theorem w64 {n : Int} (h1 : -9223372036854775808 ≤ n) (h2 : n ≤ 9223372036854775807) : wrap64 n = n := by unfold wrap64; omega
theorem w64_in (n : Int) : -9223372036854775808 ≤ wrap64 n ∧ wrap64 n ≤ 9223372036854775807 := by unfold wrap64; omega
theorem wf64 {n : Int} (h : (Lit.int .i64 n).wf = true) : -9223372036854775808 ≤ n ∧ n ≤ 9223372036854775807 := by
  simp only [Lit.wf, IntKind.min, IntKind.max, IntKind.signed, IntKind.bits, Bool.and_eq_true, decide_eq_true_eq, if_true] at h
  omega
theorem wfu8 {n : Int} (h : (Lit.int .u8 n).wf = true) : 0 ≤ n ∧ n ≤ 255 := by
  simp [Lit.wf, IntKind.min, IntKind.max, IntKind.signed, IntKind.bits] at h
  omega
theorem and_in (x : Int) (m : Nat) (hm : m < 9223372036854775808) : 0 ≤ Go.bits .and .i64 x (m : Int) ∧ Go.bits .and .i64 x (m : Int) ≤ m := by
  have h1 : (BitVec.ofInt 64 x &&& BitVec.ofInt 64 (m : Int)).toNat ≤ m := by
    rw [BitVec.toNat_and]
    refine Nat.le_trans Nat.and_le_right ?_
    rw [BitVec.ofInt_natCast, BitVec.toNat_ofNat]
    exact Nat.mod_le _ _
  have h2 : Go.bits .and .i64 x (m : Int) = IntKind.i64.wrap (((BitVec.ofInt 64 x &&& BitVec.ofInt 64 (m : Int)).toNat : Nat) : Int) := rfl
  rw [h2, Go.IntKind.wrap_i64]
  omega
theorem and255 (x : Int) : 0 ≤ Go.bits .and .i64 x 255 ∧ Go.bits .and .i64 x 255 ≤ 255 := and_in x 255 (by decide)
theorem tmod_in (x n : Int) (h0 : 0 ≤ x) (h : 1 ≤ n) : 0 ≤ Int.tmod x n ∧ Int.tmod x n < n := ⟨Int.tmod_nonneg _ h0, Int.tmod_lt_of_pos _ (by omega)⟩
theorem in_eq (a b c : Int) : spec_l01In.f a b c = some (decide (b ≤ a ∧ a ≤ c)) := by
  unfold spec_l01In.f
  by_cases h : a ≥ b
  · rw [if_pos h]; simp; omega
  · rw [if_neg h]; simp; omega
theorem within_eq (a b c : Int) : impl_within.f a b c = some (decide (b ≤ a ∧ a ≤ c)) := by
  unfold impl_within.f
  by_cases h : a ≥ b
  · rw [if_pos h]; simp; omega
  · rw [if_neg h]; simp; omega
theorem pack_eq (a b c : Int) : impl_PackControl.f a b c = some (if 0 ≤ a ∧ a ≤ 5 ∧ 0 ≤ b ∧ b ≤ 8 ∧ 0 ≤ c ∧ c ≤ 24 then a + 8 * (b + 16 * c) else -1) := by
  unfold impl_PackControl.f
  simp only [within_eq, Option.bind_some, decide_eq_true_eq]
  by_cases h1 : 0 ≤ a ∧ a ≤ 5
  · rw [if_pos h1]
    by_cases h2 : 0 ≤ b ∧ b ≤ 8
    · rw [if_pos h2]
      by_cases h3 : 0 ≤ c ∧ c ≤ 24
      · rw [if_pos h3, if_pos (by omega)]
        congr 1
        rw [w64 (n := 16 * c) (by omega) (by omega), w64 (n := b + 16 * c) (by omega) (by omega), w64 (n := 8 * (b + 16 * c)) (by omega) (by omega), w64 (by omega) (by omega)]
      · rw [if_neg h3, if_neg (by omega)]
    · rw [if_neg h2, if_neg (by omega)]
  · rw [if_neg h1, if_neg (by omega)]
/-- What a word holds, as numbers: nothing (three times -1) where it is no word. -/
def unp (w : Int) : Int × Int × Int := if 0 ≤ w ∧ w % 8 ≤ 5 ∧ w / 8 % 16 ≤ 8 ∧ w / 128 ≤ 24 then (w % 8, w / 8 % 16, w / 128) else (-1, -1, -1)
theorem unpack_eq (w : Int) (hw : w ≤ 9223372036854775807) : impl_UnpackControl.f w = some (unp w) := by
  unfold impl_UnpackControl.f unp
  by_cases h : w < 0
  · rw [if_pos h, if_neg (by omega)]
  · rw [if_neg h]
    rw [Int.tmod_eq_emod_of_nonneg (by omega : 0 ≤ w), Int.tdiv_eq_ediv_of_nonneg (by omega : 0 ≤ w), Int.tdiv_eq_ediv_of_nonneg (by omega : 0 ≤ w)]
    rw [w64 (n := w / 8) (by omega) (by omega), w64 (n := w / 128) (by omega) (by omega)]
    rw [Int.tmod_eq_emod_of_nonneg (by omega : 0 ≤ w / 8)]
    rw [pack_eq]
    simp only [Option.bind_some]
    by_cases c : 0 ≤ w ∧ w % 8 ≤ 5 ∧ w / 8 % 16 ≤ 8 ∧ w / 128 ≤ 24
    · rw [if_pos (by omega : 0 ≤ w % 8 ∧ w % 8 ≤ 5 ∧ 0 ≤ w / 8 % 16 ∧ w / 8 % 16 ≤ 8 ∧ 0 ≤ w / 128 ∧ w / 128 ≤ 24), if_pos c, if_pos (by omega)]
    · rw [if_neg c, if_neg (by omega)]
theorem spack_eq (a b c : Int) : spec_PackControl.f a b c = impl_PackControl.f a b c := by
  unfold spec_PackControl.f impl_PackControl.f
  simp only [in_eq, within_eq]
theorem FnExactUnpackControl : laws_FnExactUnpackControl.Pure := by
  intro w hw
  have hb := wf64 hw
  refine ⟨1, ?_⟩
  have hs : spec_UnpackControl.f 1 w = some (unp w) := by
    unfold spec_UnpackControl.f
    by_cases h : w < 0
    · rw [if_pos h]; unfold unp; rw [if_neg (by omega)]; simp [spec_UnpackControl.j0]
    · rw [if_neg h]
      simp only [spec_UnpackControl.j0]
      by_cases h2 : w > 100000
      · rw [if_pos (by simp; omega)]; unfold unp; rw [if_neg (by omega)]
      · rw [if_neg (by simp; omega), spack_eq, ← unpack_eq w hb.2]
        unfold impl_UnpackControl.f
        rw [if_neg h]
  unfold laws_FnExactUnpackControl.f
  rw [hs, unpack_eq w hb.2]
  simp

end Go.Proofs.Ytakdgpoiihjjlaa.Pure
