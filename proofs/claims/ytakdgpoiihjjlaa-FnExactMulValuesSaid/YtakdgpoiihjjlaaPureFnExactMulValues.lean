/- The program's MulValues and the reference's return the same for all integers; no condition. -/
import Derived.Test.YtakdgpoiihjjlaaPFnExactMulValuesx1
namespace Go.Proofs.Ytakdgpoiihjjlaa.Pure
open Go.RowKit Go.Proofs.Ytakdgpoiihjjlaa.PFnExactMulValues Go.Proofs.YtakdgpoiihjjlaaW.PrintWords Go.Proofs.YtakdgpoiihjjlaaW.PrintLast

/-- A number clamped to a range. -/
def cl (a b c : Int) : Int := if c < b then b else if a < b then b else if c < a then c else a
/-- A number clamped to the range of values. -/
def sat (a : Int) : Int := cl a (-1000000) 1000000
theorem sat_in (a : Int) : -1000000 ≤ sat a ∧ sat a ≤ 1000000 := by unfold sat cl; omega
theorem sat_id {a : Int} (h1 : -1000000 ≤ a) (h2 : a ≤ 1000000) : sat a = a := by unfold sat cl; omega
theorem iclamp (a b c : Int) : impl_Clamp.f a b c = some (cl a b c) := by
  unfold impl_Clamp.f cl Go.Proofs.YtakdgpoiihjjlaaW.PrintWords.mx Go.Proofs.YtakdgpoiihjjlaaW.PrintWords.mn
  by_cases h : c < b
  · rw [if_pos h, if_pos h]
  · rw [if_neg h, if_neg h]
    congr 1
    by_cases h1 : a < b
    · simp only [if_pos h1]; rw [if_neg (by omega)]
    · simp only [if_neg h1]
theorem sclamp (k : Nat) (hk : 1 ≤ k) (a b c : Int) : spec_Clamp.f k a b c = some (cl a b c) := by
  obtain ⟨k, rfl⟩ : ∃ m, k = m + 1 := ⟨k - 1, by omega⟩
  unfold spec_Clamp.f cl
  by_cases h : c < b
  · rw [if_pos h, if_pos h]; simp [spec_Clamp.j0]
  · rw [if_neg h, if_neg h]
    simp only [spec_Clamp.j0]
    by_cases h1 : a < b
    · simp [h1]
    · by_cases h2 : a > c
      · simp [h1, h2]
      · have h3 : ¬ c < a := by omega
        simp [h1, h3]
theorem isat (a : Int) : impl_Saturate.f a = some (sat a) := by
  unfold impl_Saturate.f sat; rw [iclamp]; rfl
theorem ssat (k : Nat) (hk : 1 ≤ k) (a : Int) : spec_Saturate.f k a = some (sat a) := by
  unfold spec_Saturate.f sat; rw [sclamp k hk]; rfl
theorem FnExactMulValues : laws_FnExactMulValues.Pure := by
  intro a b _ _
  refine ⟨1, ?_⟩
  unfold laws_FnExactMulValues.f spec_MulValues.f impl_MulValues.f
  simp only [ssat 1 (by omega), isat, Option.bind_some]
  simp

end Go.Proofs.Ytakdgpoiihjjlaa.Pure
