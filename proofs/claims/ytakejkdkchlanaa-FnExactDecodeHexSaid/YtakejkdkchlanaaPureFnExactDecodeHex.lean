/- The program's DecodeHex and the reference's return the same for all texts; no condition. -/
import Derived.Test.YtakejkdkchlanaaPFnExactDecodeHexx1
namespace Go.Proofs.Ytakejkdkchlanaa.Pure
open Go.RowKit Go.Proofs.Ytakejkdkchlanaa.PFnExactDecodeHex Go.Proofs.YtakejkdkchlanaaW.PrintWords Go.Proofs.YtakejkdkchlanaaW.PrintLast
set_option linter.unusedVariables false
set_option linter.unusedSimpArgs false

theorem w64 {n : Int} (h1 : -9223372036854775808 ≤ n) (h2 : n ≤ 9223372036854775807) : wrap64 n = n := by unfold wrap64; omega
theorem w64_in (n : Int) : -9223372036854775808 ≤ wrap64 n ∧ wrap64 n ≤ 9223372036854775807 := by unfold wrap64; omega
theorem wf64 {n : Int} (h : (Lit.int .i64 n).wf = true) : -9223372036854775808 ≤ n ∧ n ≤ 9223372036854775807 := by
  simp only [Lit.wf, IntKind.min, IntKind.max, IntKind.signed, IntKind.bits, Bool.and_eq_true, decide_eq_true_eq, if_true] at h
  omega
theorem wfu8 {n : Int} (h : (Lit.int .u8 n).wf = true) : 0 ≤ n ∧ n ≤ 255 := by
  simp [Lit.wf, IntKind.min, IntKind.max, IntKind.signed, IntKind.bits] at h
  omega
theorem and_in (x : Int) (m : Nat) (hm : m < 9223372036854775808) : 0 ≤ Go.bits .and .i64 x (m : Int) ∧ Go.bits .and .i64 x (m : Int) ≤ m := by
  have h1 : (BitVec.ofInt 64 x &&& BitVec.ofInt 64 (m : Int)).toNat ≤ m := by
    rw [BitVec.toNat_and]
    refine Nat.le_trans Nat.and_le_right ?_
    rw [BitVec.ofInt_natCast, BitVec.toNat_ofNat]
    exact Nat.mod_le _ _
  have h2 : Go.bits .and .i64 x (m : Int) = IntKind.i64.wrap (((BitVec.ofInt 64 x &&& BitVec.ofInt 64 (m : Int)).toNat : Nat) : Int) := rfl
  rw [h2, Go.IntKind.wrap_i64]
  omega
theorem and255 (x : Int) : 0 ≤ Go.bits .and .i64 x 255 ∧ Go.bits .and .i64 x 255 ≤ 255 := and_in x 255 (by decide)
theorem tmod_in (x n : Int) (h0 : 0 ≤ x) (h : 1 ≤ n) : 0 ≤ Int.tmod x n ∧ Int.tmod x n < n := ⟨Int.tmod_nonneg _ h0, Int.tmod_lt_of_pos _ (by omega)⟩
theorem digit {b : Int} (h0 : 0 ≤ b) (h1 : b ≤ 255) (k : Nat) (hk : 1 ≤ k) : ∃ t, spec_l01Value.f k b = some t ∧ (∀ j, 1 ≤ j → impl_hexDigit.f j b = some (if t < 0 then 16 else t)) ∧ -1 ≤ t ∧ t ≤ 15 := by
  have hv : ∀ (j : Nat) (f : Bool), 1 ≤ j → spec_l01Value.j0 j b f = if f = true then some (b - 48) else if b ≥ 97 then (if b ≤ 102 then some (b - 87) else some (-1)) else some (-1) := by
    intro j f hj
    obtain ⟨j, rfl⟩ : ∃ m, j = m + 1 := ⟨j - 1, by omega⟩
    simp only [spec_l01Value.j0]
    rw [w64 (n := b) (by omega) (by omega), w64 (n := b - 48) (by omega) (by omega), w64 (n := b - 97) (by omega) (by omega), w64 (by omega) (by omega), show b - 97 + 10 = b - 87 by omega]
  have hd : ∀ (j : Nat) (f : Bool), 1 ≤ j → impl_hexDigit.j0 j b f = if f = true then some ((b - 48) % 256) else if b ≥ 97 then (if b ≤ 102 then some ((((b - 97) % 256) + 10) % 256) else some 16) else some 16 := by
    intro j f hj
    obtain ⟨j, rfl⟩ : ∃ m, j = m + 1 := ⟨j - 1, by omega⟩
    simp only [impl_hexDigit.j0]
  by_cases c1 : b ≥ 48
  · by_cases c2 : b ≤ 57
    · refine ⟨b - 48, ?_, fun j hj => ?_, by omega, by omega⟩
      · unfold spec_l01Value.f
        rw [if_pos c1, hv _ _ hk, if_pos (decide_eq_true c2)]
      · unfold impl_hexDigit.f
        rw [if_pos c1, hd _ _ hj, if_pos (decide_eq_true c2), if_neg (by omega)]
        congr 1; omega
    · by_cases c3 : b ≥ 97 ∧ b ≤ 102
      · refine ⟨b - 87, ?_, fun j hj => ?_, by omega, by omega⟩
        · unfold spec_l01Value.f
          rw [if_pos c1, hv _ _ hk, if_neg (by simp; omega), if_pos c3.1, if_pos c3.2]
        · unfold impl_hexDigit.f
          rw [if_pos c1, hd _ _ hj, if_neg (by simp; omega), if_pos c3.1, if_pos c3.2, if_neg (by omega)]
          congr 1; omega
      · refine ⟨-1, ?_, fun j hj => ?_, by omega, by omega⟩
        · unfold spec_l01Value.f
          rw [if_pos c1, hv _ _ hk, if_neg (by simp; omega)]
          split
          · rw [if_neg (by omega)]
          · rfl
        · unfold impl_hexDigit.f
          rw [if_pos c1, hd _ _ hj, if_neg (by simp; omega), if_pos (show (-1 : Int) < 0 by omega)]
          split
          · rw [if_neg (by omega)]
          · rfl
  · refine ⟨-1, ?_, fun j hj => ?_, by omega, by omega⟩
    · unfold spec_l01Value.f
      rw [if_neg c1, hv _ _ hk, if_neg (by simp), if_neg (by omega)]
    · unfold impl_hexDigit.f
      rw [if_neg c1, hd _ _ hj, if_neg (by simp), if_neg (by omega), if_pos (by omega)]
theorem or16 : ∀ a b : Fin 16, Go.bits .or .u8 (((a.val : Int) * 16) % 256) (b.val : Int) = 16 * (a.val : Int) + (b.val : Int) := by decide
theorem or_eq {t u : Int} (h0 : 0 ≤ t) (h1 : t ≤ 15) (h2 : 0 ≤ u) (h3 : u ≤ 15) : Go.bits .or .u8 ((t * 16) % 256) u = 16 * t + u := by
  have h := or16 ⟨t.toNat, by omega⟩ ⟨u.toNat, by omega⟩
  simp only [Int.toNat_of_nonneg h0, Int.toNat_of_nonneg h2] at h
  exact h
theorem loops (s : ByteArray) (sz : s.size ≤ 1048576) (ev : (s.size : Int) % 2 = 0) (k : Nat) : ∀ (x : List Int) (i : Int), 0 ≤ i → i % 2 = 0 → i ≤ s.size → (s.size : Int) - i + 1 < k → (x.length : Int) * 2 = i →
    ∃ r, spec_DecodeHex.l0 k s x i = some r ∧ impl_readHex.l0 (k + 1) s x i = some r ∧ ((r.2 = true ∧ (r.1.size : Int) * 2 = s.size) ∨ r = (⟨#[]⟩, false)) := by
  induction k with
  | zero => intro x i h0 h1 h2 h3; omega
  | succ k ih =>
    intro x i h0 h1 h2 h3 h4
    unfold spec_DecodeHex.l0 impl_readHex.l0
    by_cases c : i < (s.size : Int)
    · have hb := bt_range s i
      have hb2 := bt_range s (i + 1)
      obtain ⟨t, a1, a2, a3, a4⟩ := digit hb.1 hb.2 k (by omega)
      obtain ⟨u, b1, b2, b3, b4⟩ := digit hb2.1 hb2.2 k (by omega)
      rw [w64 (n := i + 1) (by omega) (by omega), w64 (n := i + 2) (by omega) (by omega), a1, b1, a2 (k + 1) (by omega), b2 (k + 1) (by omega)]
      simp only [Option.bind_some]
      rw [if_pos c, if_pos c, if_pos h0, if_pos h0, if_pos (show 0 ≤ i + 1 by omega), if_pos (show i + 1 < (s.size : Int) by omega), if_pos (show 0 ≤ i + 1 by omega), if_pos (show i + 1 < (s.size : Int) by omega)]
      by_cases d : t < 0
      · rw [if_pos d, if_pos (show (if t < 0 then (16 : Int) else t) = 16 by rw [if_pos d])]
        exact ⟨_, rfl, rfl, Or.inr rfl⟩
      · rw [if_neg d, if_neg (show ¬ (if t < 0 then (16 : Int) else t) = 16 by rw [if_neg d]; omega)]
        by_cases e : u < 0
        · rw [if_pos e, if_pos (show (if u < 0 then (16 : Int) else u) = 16 by rw [if_pos e])]
          exact ⟨_, rfl, rfl, Or.inr rfl⟩
        · rw [if_neg e, if_neg (show ¬ (if u < 0 then (16 : Int) else u) = 16 by rw [if_neg e]; omega), if_neg d, if_neg e, if_pos (show x.length < 140737488355328 by omega), if_pos (show x.length < 140737488355328 by omega)]
          rw [or_eq (by omega) (by omega) (by omega) (by omega), w64 (n := 16 * t) (by omega) (by omega), w64 (n := 16 * t + u) (by omega) (by omega), Int.emod_eq_of_lt (by omega) (by omega)]
          exact ih _ _ (by omega) (by omega) (by omega) (by omega) (by simp; omega)
    · rw [if_neg c, if_neg c]
      refine ⟨_, rfl, rfl, Or.inl ⟨rfl, ?_⟩⟩
      rw [strOfNums_size]; omega
theorem FnExactDecodeHex : laws_FnExactDecodeHex.Pure := by
  intro s hs
  refine ⟨s.size + 5, ?_⟩
  unfold laws_FnExactDecodeHex.f
  split
  · rfl
  · unfold spec_DecodeHex.f impl_DecodeHex.f impl_readHex.f
    by_cases ev : (s.size : Int) % 2 = 0
    · obtain ⟨r, h1, h2, h3⟩ := loops s (by omega) ev (s.size + 4) [] 0 (by omega) (by omega) (by omega) (by omega) (by simp)
      rw [if_neg (show ¬ (s.size : Int) % 2 = 1 by omega), w64 (by omega) (by omega), if_pos (show 0 ≤ (s.size : Int) / 2 by omega), if_pos (show ((s.size : Int) / 2).toNat ≤ 281474976710656 by omega), h2]
      have hj : ∀ b, spec_DecodeHex.j0 (s.size + 5) s b = if b = true then some (⟨#[]⟩, false) else some r := by
        intro b
        simp only [spec_DecodeHex.j0]
        rw [h1]
      rw [hj, hj]
      simp only [Option.bind_some]
      obtain ⟨r1, r2⟩ := r
      rcases h3 with ⟨hr, hz⟩ | h3
      · subst hr
        simp only at hz
        by_cases c : (s.size : Int) > 40000
        · have c2 : (r1.size : Int) > 20000 := by omega
          simp [c, c2]
        · have c2 : ¬ (r1.size : Int) > 20000 := by omega
          simp [c, c2, ev]
      · cases h3
        by_cases c : (s.size : Int) > 40000
        · simp [c]
        · simp [c, ev]
    · rw [if_pos (show (s.size : Int) % 2 = 1 by omega)]
      have hj : ∀ b, b = true → spec_DecodeHex.j0 (s.size + 5) s b = some (⟨#[]⟩, false) := by
        intro b hb
        simp only [spec_DecodeHex.j0]
        rw [if_pos hb]
      rw [hj true rfl, hj _ (by simp; omega)]
      split <;> simp

end Go.Proofs.Ytakejkdkchlanaa.Pure
