/- A clamped number is in the range, is not changed again, and equals the number if this is in the range, at every draw; no condition. -/
import Derived.Test.YtakdgpoiihjjlaaPFnClampedx1
namespace Go.Proofs.Ytakdgpoiihjjlaa.Pure
open Go.RowKit Go.Proofs.Ytakdgpoiihjjlaa.PFnClamped Go.Proofs.YtakdgpoiihjjlaaW.PrintWords Go.Proofs.YtakdgpoiihjjlaaW.PrintLast

theorem w64 {n : Int} (h1 : -9223372036854775808 ≤ n) (h2 : n ≤ 9223372036854775807) : wrap64 n = n := by unfold wrap64; omega
theorem w64_in (n : Int) : -9223372036854775808 ≤ wrap64 n ∧ wrap64 n ≤ 9223372036854775807 := by unfold wrap64; omega
theorem wf64 {n : Int} (h : (Lit.int .i64 n).wf = true) : -9223372036854775808 ≤ n ∧ n ≤ 9223372036854775807 := by
  simp only [Lit.wf, IntKind.min, IntKind.max, IntKind.signed, IntKind.bits, Bool.and_eq_true, decide_eq_true_eq, if_true] at h
  omega
theorem wfu8 {n : Int} (h : (Lit.int .u8 n).wf = true) : 0 ≤ n ∧ n ≤ 255 := by
  simp [Lit.wf, IntKind.min, IntKind.max, IntKind.signed, IntKind.bits] at h
  omega
theorem and_in (x : Int) (m : Nat) (hm : m < 9223372036854775808) : 0 ≤ Go.bits .and .i64 x (m : Int) ∧ Go.bits .and .i64 x (m : Int) ≤ m := by
  have h1 : (BitVec.ofInt 64 x &&& BitVec.ofInt 64 (m : Int)).toNat ≤ m := by
    rw [BitVec.toNat_and]
    refine Nat.le_trans Nat.and_le_right ?_
    rw [BitVec.ofInt_natCast, BitVec.toNat_ofNat]
    exact Nat.mod_le _ _
  have h2 : Go.bits .and .i64 x (m : Int) = IntKind.i64.wrap (((BitVec.ofInt 64 x &&& BitVec.ofInt 64 (m : Int)).toNat : Nat) : Int) := rfl
  rw [h2, Go.IntKind.wrap_i64]
  omega
theorem and255 (x : Int) : 0 ≤ Go.bits .and .i64 x 255 ∧ Go.bits .and .i64 x 255 ≤ 255 := and_in x 255 (by decide)
theorem tmod_in (x n : Int) (h0 : 0 ≤ x) (h : 1 ≤ n) : 0 ≤ Int.tmod x n ∧ Int.tmod x n < n := ⟨Int.tmod_nonneg _ h0, Int.tmod_lt_of_pos _ (by omega)⟩
/-- A number clamped to a range. -/
def cl (a b c : Int) : Int := if c < b then b else if a < b then b else if c < a then c else a
/-- A number clamped to the range of values. -/
def sat (a : Int) : Int := cl a (-1000000) 1000000
theorem sat_in (a : Int) : -1000000 ≤ sat a ∧ sat a ≤ 1000000 := by unfold sat cl; omega
theorem sat_id {a : Int} (h1 : -1000000 ≤ a) (h2 : a ≤ 1000000) : sat a = a := by unfold sat cl; omega
theorem iclamp (a b c : Int) : impl_Clamp.f a b c = some (cl a b c) := by
  unfold impl_Clamp.f cl Go.Proofs.YtakdgpoiihjjlaaW.PrintWords.mx Go.Proofs.YtakdgpoiihjjlaaW.PrintWords.mn
  by_cases h : c < b
  · rw [if_pos h, if_pos h]
  · rw [if_neg h, if_neg h]
    congr 1
    by_cases h1 : a < b
    · simp only [if_pos h1]; rw [if_neg (by omega)]
    · simp only [if_neg h1]
/-- The place of a cursor lies in its bytes. -/
structure OkC (l : List Int) (i : Int) : Prop where
  lo : 0 ≤ i
  hi : i ≤ l.length
  sz : (l.length : Int) ≤ 140737488351232
theorem byte_tells {l : List Int} {i : Int} (h : Int) (ok : OkC l i) : ∃ x i' h', spec_l01Byte.f l i h = some (x, i', h') ∧ OkC l i' ∧ 0 ≤ x ∧ x ≤ 255 := by
  obtain ⟨lo, hi, sz⟩ := ok
  unfold spec_l01Byte.f
  by_cases h1 : i < (l.length : Int)
  · rw [if_pos h1, if_pos lo]
    refine ⟨_, _, _, rfl, ?_, and255 _⟩
    rw [w64 (by omega) (by omega)]
    exact ⟨by omega, by omega, sz⟩
  · rw [if_neg h1]
    exact ⟨_, _, _, rfl, ⟨lo, hi, sz⟩, and255 _⟩
theorem below_tells {l : List Int} {i : Int} (h n : Int) (ok : OkC l i) (hn : 1 ≤ n) : ∃ x i' h', spec_l01Below.f l i h n = some (x, i', h') ∧ OkC l i' ∧ 0 ≤ x ∧ x < n := by
  unfold spec_l01Below.f
  rw [if_neg (by omega)]
  by_cases h1 : n ≤ 256
  · rw [if_pos h1]
    obtain ⟨x, i1, g1, e1, ok1, x0, x1⟩ := byte_tells h ok
    rw [e1]
    simp only [Option.bind_some]
    rw [if_neg (by omega)]
    exact ⟨_, _, _, rfl, ok1, tmod_in _ _ x0 hn⟩
  · rw [if_neg h1]
    obtain ⟨x, i1, g1, e1, ok1, x0, x1⟩ := byte_tells h ok
    obtain ⟨y, i2, g2, e2, ok2, y0, y1⟩ := byte_tells g1 ok1
    obtain ⟨z, i3, g3, e3, ok3, z0, z1⟩ := byte_tells g2 ok2
    obtain ⟨v, i4, g4, e4, ok4, v0, v1⟩ := byte_tells g3 ok3
    rw [e1]; simp only [Option.bind_some]
    rw [e2]; simp only [Option.bind_some]
    rw [e3]; simp only [Option.bind_some]
    rw [e4]; simp only [Option.bind_some]
    rw [if_neg (by omega)]
    refine ⟨_, _, _, rfl, ok4, tmod_in _ _ ?_ hn⟩
    rw [w64 (n := x * 16777216) (by omega) (by omega), w64 (n := y * 65536) (by omega) (by omega), w64 (n := z * 256) (by omega) (by omega)]
    rw [w64 (n := x * 16777216 + y * 65536) (by omega) (by omega), w64 (n := x * 16777216 + y * 65536 + z * 256) (by omega) (by omega)]
    rw [w64 (by omega) (by omega)]
    omega
theorem once_tells {l : List Int} {i : Int} (h n : Int) (ok : OkC l i) (hn : 1 ≤ n) : ∃ x i' h', spec_l01Once.f l i h n = some (x, i', h') ∧ OkC l i' := by
  obtain ⟨x, i1, g1, e1, ok1, _⟩ := below_tells h n ok hn
  unfold spec_l01Once.f
  rw [e1]
  exact ⟨_, _, _, rfl, ok1⟩
theorem rd_mem (xs : List Int) (i : Int) (h0 : 0 ≤ i) (h1 : i < (xs.length : Int)) : rd xs i ∈ xs := by
  have h : i.toNat < xs.length := by omega
  unfold Go.Proofs.YtakdgpoiihjjlaaW.PrintWords.rd
  rw [List.getD_eq_getElem?_getD, List.getElem?_eq_getElem h]
  exact List.getElem_mem h
theorem pick_tells {l : List Int} {i : Int} (h : Int) (xs : List Int) (ok : OkC l i) (hn : 1 ≤ xs.length) : ∃ x i' h', spec_l01PickInt.f l i h xs = some (x, i', h') ∧ OkC l i' ∧ x ∈ xs := by
  obtain ⟨x, i1, g1, e1, ok1, x0, x1⟩ := below_tells h (xs.length : Int) ok (by omega)
  unfold spec_l01PickInt.f
  rw [e1]
  simp only [Option.bind_some]
  rw [if_pos x0, if_pos x1]
  exact ⟨_, _, _, rfl, ok1, rd_mem xs x x0 x1⟩
theorem new_loop (l : List Int) (sz : (l.length : Int) ≤ 140737488351232) (d : Nat) : ∀ (k : Nat) (h i : Int), 0 ≤ i → i ≤ l.length → (l.length : Int) - i = d → d < k → ∃ g, spec_l01New.l0 k l h i = some (l, 0, g) := by
  induction d with
  | zero =>
    intro k h i h0 h1 hd hk
    obtain ⟨k, rfl⟩ : ∃ m, k = m + 1 := ⟨k - 1, by omega⟩
    exact ⟨h, by simp only [spec_l01New.l0]; rw [if_neg (by omega)]⟩
  | succ d ih =>
    intro k h i h0 h1 hd hk
    obtain ⟨k, rfl⟩ : ∃ m, k = m + 1 := ⟨k - 1, by omega⟩
    simp only [spec_l01New.l0]
    rw [if_pos (by omega)]
    by_cases c : i < 4000
    · rw [if_pos c, if_pos h0, w64 (n := i + 1) (by omega) (by omega)]
      exact ih k _ (i + 1) (by omega) (by omega) (by omega) (by omega)
    · rw [if_neg c]; exact ⟨h, rfl⟩
theorem new_tells (l : List Int) (sz : (l.length : Int) ≤ 140737488351232) : ∃ g, ∀ k, l.length < k → spec_l01New.f k l = some (l, 0, g) := by
  obtain ⟨g, e⟩ := new_loop l sz l.length (l.length + 1) (wrap64 (98347 + (l.length : Int))) 0 (by omega) (by omega) (by omega) (by omega)
  exact ⟨g, fun k hk => at_rounds (fun k => spec_l01New.mono l k) (by omega : l.length + 1 ≤ k) e⟩
theorem ok_start {l : List Int} (sz : (l.length : Int) ≤ 140737488351232) : OkC l 0 := ⟨by omega, by omega, sz⟩
theorem number_tells {l : List Int} {i : Int} (h : Int) (ok : OkC l i) : ∃ x i' h', spec_l01Number.f l i h = some (x, i', h') ∧ OkC l i' := by
  obtain ⟨b, i1, g1, e1, ok1, b0, b1⟩ := below_tells h 4 ok (by omega)
  unfold spec_l01Number.f
  rw [e1]
  simp only [Option.bind_some]
  by_cases c : b = 0
  · rw [if_pos c]
    obtain ⟨x, i2, g2, e2, ok2, hx⟩ := pick_tells g1 [(-1), 0, 127, 128, 16383, 16384, 1000000000, 1000000001, 9223372036854775807, (-9223372036854775808)] ok1 (by simp)
    rw [e2]
    exact ⟨_, _, _, rfl, ok2⟩
  · rw [if_neg c]
    by_cases c : b = 1
    · rw [if_pos c]
      obtain ⟨x, i2, g2, e2, ok2, hx⟩ := below_tells g1 1000000000 ok1 (by omega)
      rw [e2]
      exact ⟨_, _, _, rfl, ok2⟩
    · rw [if_neg c]
      obtain ⟨x, i2, g2, e2, ok2, hx⟩ := below_tells g1 400 ok1 (by omega)
      rw [e2]
      exact ⟨_, _, _, rfl, ok2⟩
theorem drawClamp_tells (l : List Int) (sz : (l.length : Int) ≤ 140737488351232) : ∃ a b c, ∀ k, l.length < k → spec_DrawClamp.f k l = some (a, b, c) := by
  obtain ⟨g, e⟩ := new_tells l sz
  obtain ⟨b, i1, g1, e1, ok1⟩ := once_tells g 4 (ok_start sz) (by omega)
  by_cases c : b = true
  · obtain ⟨x, i2, g2, e2, ok2⟩ := number_tells g1 ok1
    obtain ⟨y, i3, g3, e3, ok3⟩ := number_tells g2 ok2
    obtain ⟨z, i4, g4, e4, ok4⟩ := number_tells g3 ok3
    refine ⟨x, y, z, fun k hk => ?_⟩
    unfold spec_DrawClamp.f
    rw [e k hk]
    simp only [Option.bind_some, e1]
    rw [if_pos c]
    simp only [Option.bind_some, e2, e3, e4]
  · obtain ⟨x, i2, g2, e2, ok2, _⟩ := below_tells g1 40 ok1 (by omega)
    obtain ⟨y, i3, g3, e3, ok3, _⟩ := below_tells g2 80 ok2 (by omega)
    obtain ⟨z, i4, g4, e4, ok4, _⟩ := below_tells g3 30 ok3 (by omega)
    refine ⟨wrap64 (y - 40), wrap64 (x - 20), wrap64 ((wrap64 ((wrap64 (x - 20)) + z)) - 3), fun k hk => ?_⟩
    unfold spec_DrawClamp.f
    rw [e k hk]
    simp only [Option.bind_some, e1]
    rw [if_neg c]
    simp only [Option.bind_some, e2, e3, e4]
theorem FnClamped : laws_FnClamped.Pure := by
  intro l _ hl _
  obtain ⟨n, a, b, e⟩ := drawClamp_tells l (by omega)
  refine ⟨l.length + 1, ?_⟩
  unfold laws_FnClamped.f laws_big.f
  rw [e _ (by omega)]
  have h5 : cl 7 3 5 = 5 := by decide
  simp only [Option.bind_some, iclamp, h5]
  split
  · rfl
  · by_cases c : b < a
    · rw [if_pos c, if_pos (by unfold cl; rw [if_pos c])]; rfl
    · rw [if_neg c, if_pos (by unfold cl; omega), if_pos (by unfold cl; omega), if_pos (by unfold cl; omega)]
      by_cases c1 : n < a
      · rw [if_pos c1]; rfl
      · rw [if_neg c1]
        by_cases c2 : n > b
        · rw [if_pos c2]; rfl
        · rw [if_neg c2, if_pos (by unfold cl; omega)]; rfl

end Go.Proofs.Ytakdgpoiihjjlaa.Pure
