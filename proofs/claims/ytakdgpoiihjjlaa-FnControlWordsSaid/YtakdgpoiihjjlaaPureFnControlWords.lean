/- Control words can be unpacked, and different contents have different words, at every draw; no condition. -/
import Derived.Test.YtakdgpoiihjjlaaPFnControlWordsx2
namespace Go.Proofs.Ytakdgpoiihjjlaa.Pure
open Go.RowKit Go.Proofs.Ytakdgpoiihjjlaa.PFnControlWords Go.Proofs.YtakdgpoiihjjlaaW.PrintWords Go.Proofs.YtakdgpoiihjjlaaW.PrintLast

theorem w64 {n : Int} (h1 : -9223372036854775808 ≤ n) (h2 : n ≤ 9223372036854775807) : wrap64 n = n := by unfold wrap64; omega
theorem w64_in (n : Int) : -9223372036854775808 ≤ wrap64 n ∧ wrap64 n ≤ 9223372036854775807 := by unfold wrap64; omega
theorem wf64 {n : Int} (h : (Lit.int .i64 n).wf = true) : -9223372036854775808 ≤ n ∧ n ≤ 9223372036854775807 := by
  simp only [Lit.wf, IntKind.min, IntKind.max, IntKind.signed, IntKind.bits, Bool.and_eq_true, decide_eq_true_eq, if_true] at h
  omega
theorem wfu8 {n : Int} (h : (Lit.int .u8 n).wf = true) : 0 ≤ n ∧ n ≤ 255 := by
  simp [Lit.wf, IntKind.min, IntKind.max, IntKind.signed, IntKind.bits] at h
  omega
theorem and_in (x : Int) (m : Nat) (hm : m < 9223372036854775808) : 0 ≤ Go.bits .and .i64 x (m : Int) ∧ Go.bits .and .i64 x (m : Int) ≤ m := by
  have h1 : (BitVec.ofInt 64 x &&& BitVec.ofInt 64 (m : Int)).toNat ≤ m := by
    rw [BitVec.toNat_and]
    refine Nat.le_trans Nat.and_le_right ?_
    rw [BitVec.ofInt_natCast, BitVec.toNat_ofNat]
    exact Nat.mod_le _ _
  have h2 : Go.bits .and .i64 x (m : Int) = IntKind.i64.wrap (((BitVec.ofInt 64 x &&& BitVec.ofInt 64 (m : Int)).toNat : Nat) : Int) := rfl
  rw [h2, Go.IntKind.wrap_i64]
  omega
theorem and255 (x : Int) : 0 ≤ Go.bits .and .i64 x 255 ∧ Go.bits .and .i64 x 255 ≤ 255 := and_in x 255 (by decide)
theorem tmod_in (x n : Int) (h0 : 0 ≤ x) (h : 1 ≤ n) : 0 ≤ Int.tmod x n ∧ Int.tmod x n < n := ⟨Int.tmod_nonneg _ h0, Int.tmod_lt_of_pos _ (by omega)⟩
theorem within_eq (a b c : Int) : impl_within.f a b c = some (decide (b ≤ a ∧ a ≤ c)) := by
  unfold impl_within.f
  by_cases h : a ≥ b
  · rw [if_pos h]; simp; omega
  · rw [if_neg h]; simp; omega
theorem pack_eq (a b c : Int) : impl_PackControl.f a b c = some (if 0 ≤ a ∧ a ≤ 5 ∧ 0 ≤ b ∧ b ≤ 8 ∧ 0 ≤ c ∧ c ≤ 24 then a + 8 * (b + 16 * c) else -1) := by
  unfold impl_PackControl.f
  simp only [within_eq, Option.bind_some, decide_eq_true_eq]
  by_cases h1 : 0 ≤ a ∧ a ≤ 5
  · rw [if_pos h1]
    by_cases h2 : 0 ≤ b ∧ b ≤ 8
    · rw [if_pos h2]
      by_cases h3 : 0 ≤ c ∧ c ≤ 24
      · rw [if_pos h3, if_pos (by omega)]
        congr 1
        rw [w64 (n := 16 * c) (by omega) (by omega), w64 (n := b + 16 * c) (by omega) (by omega), w64 (n := 8 * (b + 16 * c)) (by omega) (by omega), w64 (by omega) (by omega)]
      · rw [if_neg h3, if_neg (by omega)]
    · rw [if_neg h2, if_neg (by omega)]
  · rw [if_neg h1, if_neg (by omega)]
/-- What a word holds, as numbers: nothing (three times -1) where it is no word. -/
def unp (w : Int) : Int × Int × Int := if 0 ≤ w ∧ w % 8 ≤ 5 ∧ w / 8 % 16 ≤ 8 ∧ w / 128 ≤ 24 then (w % 8, w / 8 % 16, w / 128) else (-1, -1, -1)
theorem unpack_eq (w : Int) (hw : w ≤ 9223372036854775807) : impl_UnpackControl.f w = some (unp w) := by
  unfold impl_UnpackControl.f unp
  by_cases h : w < 0
  · rw [if_pos h, if_neg (by omega)]
  · rw [if_neg h]
    rw [Int.tmod_eq_emod_of_nonneg (by omega : 0 ≤ w), Int.tdiv_eq_ediv_of_nonneg (by omega : 0 ≤ w), Int.tdiv_eq_ediv_of_nonneg (by omega : 0 ≤ w)]
    rw [w64 (n := w / 8) (by omega) (by omega), w64 (n := w / 128) (by omega) (by omega)]
    rw [Int.tmod_eq_emod_of_nonneg (by omega : 0 ≤ w / 8)]
    rw [pack_eq]
    simp only [Option.bind_some]
    by_cases c : 0 ≤ w ∧ w % 8 ≤ 5 ∧ w / 8 % 16 ≤ 8 ∧ w / 128 ≤ 24
    · rw [if_pos (by omega : 0 ≤ w % 8 ∧ w % 8 ≤ 5 ∧ 0 ≤ w / 8 % 16 ∧ w / 8 % 16 ≤ 8 ∧ 0 ≤ w / 128 ∧ w / 128 ≤ 24), if_pos c, if_pos (by omega)]
    · rw [if_neg c, if_neg (by omega)]
/-- The place of a cursor lies in its bytes. -/
structure OkC (l : List Int) (i : Int) : Prop where
  lo : 0 ≤ i
  hi : i ≤ l.length
  sz : (l.length : Int) ≤ 140737488351232
theorem byte_tells {l : List Int} {i : Int} (h : Int) (ok : OkC l i) : ∃ x i' h', spec_l01Byte.f l i h = some (x, i', h') ∧ OkC l i' ∧ 0 ≤ x ∧ x ≤ 255 := by
  obtain ⟨lo, hi, sz⟩ := ok
  unfold spec_l01Byte.f
  by_cases h1 : i < (l.length : Int)
  · rw [if_pos h1, if_pos lo]
    refine ⟨_, _, _, rfl, ?_, and255 _⟩
    rw [w64 (by omega) (by omega)]
    exact ⟨by omega, by omega, sz⟩
  · rw [if_neg h1]
    exact ⟨_, _, _, rfl, ⟨lo, hi, sz⟩, and255 _⟩
theorem below_tells {l : List Int} {i : Int} (h n : Int) (ok : OkC l i) (hn : 1 ≤ n) : ∃ x i' h', spec_l01Below.f l i h n = some (x, i', h') ∧ OkC l i' ∧ 0 ≤ x ∧ x < n := by
  unfold spec_l01Below.f
  rw [if_neg (by omega)]
  by_cases h1 : n ≤ 256
  · rw [if_pos h1]
    obtain ⟨x, i1, g1, e1, ok1, x0, x1⟩ := byte_tells h ok
    rw [e1]
    simp only [Option.bind_some]
    rw [if_neg (by omega)]
    exact ⟨_, _, _, rfl, ok1, tmod_in _ _ x0 hn⟩
  · rw [if_neg h1]
    obtain ⟨x, i1, g1, e1, ok1, x0, x1⟩ := byte_tells h ok
    obtain ⟨y, i2, g2, e2, ok2, y0, y1⟩ := byte_tells g1 ok1
    obtain ⟨z, i3, g3, e3, ok3, z0, z1⟩ := byte_tells g2 ok2
    obtain ⟨v, i4, g4, e4, ok4, v0, v1⟩ := byte_tells g3 ok3
    rw [e1]; simp only [Option.bind_some]
    rw [e2]; simp only [Option.bind_some]
    rw [e3]; simp only [Option.bind_some]
    rw [e4]; simp only [Option.bind_some]
    rw [if_neg (by omega)]
    refine ⟨_, _, _, rfl, ok4, tmod_in _ _ ?_ hn⟩
    rw [w64 (n := x * 16777216) (by omega) (by omega), w64 (n := y * 65536) (by omega) (by omega), w64 (n := z * 256) (by omega) (by omega)]
    rw [w64 (n := x * 16777216 + y * 65536) (by omega) (by omega), w64 (n := x * 16777216 + y * 65536 + z * 256) (by omega) (by omega)]
    rw [w64 (by omega) (by omega)]
    omega
theorem once_tells {l : List Int} {i : Int} (h n : Int) (ok : OkC l i) (hn : 1 ≤ n) : ∃ x i' h', spec_l01Once.f l i h n = some (x, i', h') ∧ OkC l i' := by
  obtain ⟨x, i1, g1, e1, ok1, _⟩ := below_tells h n ok hn
  unfold spec_l01Once.f
  rw [e1]
  exact ⟨_, _, _, rfl, ok1⟩
theorem rd_mem (xs : List Int) (i : Int) (h0 : 0 ≤ i) (h1 : i < (xs.length : Int)) : rd xs i ∈ xs := by
  have h : i.toNat < xs.length := by omega
  unfold Go.Proofs.YtakdgpoiihjjlaaW.PrintWords.rd
  rw [List.getD_eq_getElem?_getD, List.getElem?_eq_getElem h]
  exact List.getElem_mem h
theorem pick_tells {l : List Int} {i : Int} (h : Int) (xs : List Int) (ok : OkC l i) (hn : 1 ≤ xs.length) : ∃ x i' h', spec_l01PickInt.f l i h xs = some (x, i', h') ∧ OkC l i' ∧ x ∈ xs := by
  obtain ⟨x, i1, g1, e1, ok1, x0, x1⟩ := below_tells h (xs.length : Int) ok (by omega)
  unfold spec_l01PickInt.f
  rw [e1]
  simp only [Option.bind_some]
  rw [if_pos x0, if_pos x1]
  exact ⟨_, _, _, rfl, ok1, rd_mem xs x x0 x1⟩
theorem new_loop (l : List Int) (sz : (l.length : Int) ≤ 140737488351232) (d : Nat) : ∀ (k : Nat) (h i : Int), 0 ≤ i → i ≤ l.length → (l.length : Int) - i = d → d < k → ∃ g, spec_l01New.l0 k l h i = some (l, 0, g) := by
  induction d with
  | zero =>
    intro k h i h0 h1 hd hk
    obtain ⟨k, rfl⟩ : ∃ m, k = m + 1 := ⟨k - 1, by omega⟩
    exact ⟨h, by simp only [spec_l01New.l0]; rw [if_neg (by omega)]⟩
  | succ d ih =>
    intro k h i h0 h1 hd hk
    obtain ⟨k, rfl⟩ : ∃ m, k = m + 1 := ⟨k - 1, by omega⟩
    simp only [spec_l01New.l0]
    rw [if_pos (by omega)]
    by_cases c : i < 4000
    · rw [if_pos c, if_pos h0, w64 (n := i + 1) (by omega) (by omega)]
      exact ih k _ (i + 1) (by omega) (by omega) (by omega) (by omega)
    · rw [if_neg c]; exact ⟨h, rfl⟩
theorem new_tells (l : List Int) (sz : (l.length : Int) ≤ 140737488351232) : ∃ g, ∀ k, l.length < k → spec_l01New.f k l = some (l, 0, g) := by
  obtain ⟨g, e⟩ := new_loop l sz l.length (l.length + 1) (wrap64 (98347 + (l.length : Int))) 0 (by omega) (by omega) (by omega) (by omega)
  exact ⟨g, fun k hk => at_rounds (fun k => spec_l01New.mono l k) (by omega : l.length + 1 ≤ k) e⟩
theorem ok_start {l : List Int} (sz : (l.length : Int) ≤ 140737488351232) : OkC l 0 := ⟨by omega, by omega, sz⟩
theorem places_loop (l : List Int) (d : Nat) : ∀ (k : Nat) (out : List Int) (j i h : Int), OkC l i → 0 ≤ j → (out.length : Int) = j → 12 - j = d → d < k → (∀ x ∈ out, 0 ≤ x ∧ x < 10000) →
    ∃ r, spec_DrawPlaces.l0 k out j l i h = some r ∧ r.length = 12 ∧ ∀ x ∈ r, 0 ≤ x ∧ x < 10000 := by
  induction d with
  | zero =>
    intro k out j i h ok h0 hl hd hk ho
    obtain ⟨k, rfl⟩ : ∃ m, k = m + 1 := ⟨k - 1, by omega⟩
    exact ⟨out, by simp only [spec_DrawPlaces.l0]; rw [if_neg (by omega)], by omega, ho⟩
  | succ d ih =>
    intro k out j i h ok h0 hl hd hk ho
    obtain ⟨k, rfl⟩ : ∃ m, k = m + 1 := ⟨k - 1, by omega⟩
    simp only [spec_DrawPlaces.l0]
    obtain ⟨x, i1, g1, e1, ok1, x0, x1⟩ := below_tells h 10000 ok (by omega)
    rw [if_pos (by omega), e1]
    simp only [Option.bind_some]
    rw [if_pos (by omega), w64 (n := j + 1) (by omega) (by omega)]
    refine ih k (out ++ [x]) (j + 1) i1 g1 ok1 (by omega) (by simp; omega) (by omega) (by omega) ?_
    intro y hy
    rcases List.mem_append.1 hy with h | h
    · exact ho y h
    · rw [List.mem_singleton.1 h]; exact ⟨x0, x1⟩
theorem places_tells (l : List Int) (sz : (l.length : Int) ≤ 140737488351232) : ∃ r, (∀ k, l.length + 13 < k → spec_DrawPlaces.f k l = some r) ∧ r.length = 12 ∧ ∀ x ∈ r, 0 ≤ x ∧ x < 10000 := by
  obtain ⟨g, e⟩ := new_tells l sz
  obtain ⟨r, er, hr⟩ := places_loop l 12 13 [] 0 0 g (ok_start sz) (by omega) (by simp) (by omega) (by omega) (by simp)
  refine ⟨r, fun k hk => ?_, hr⟩
  unfold spec_DrawPlaces.f
  rw [e k (by omega)]
  simp only [Option.bind_some]
  exact at_rounds (fun k => spec_DrawPlaces.mono_l k _ _ _ _ _) (by omega : 13 ≤ k) er
theorem rd_in {r : List Int} (i : Int) (h0 : 0 ≤ i) (hl : i < (r.length : Int)) (h : ∀ x ∈ r, 0 ≤ x ∧ x < 10000) : 0 ≤ rd r i ∧ rd r i < 10000 := h _ (rd_mem r i h0 hl)
theorem drawWord_tells (l : List Int) (sz : (l.length : Int) ≤ 140737488351232) : ∃ a, (∀ k, l.length < k → spec_DrawUnpackControl.f k l = some a) ∧ a ≤ 9223372036854775807 := by
  obtain ⟨g, e⟩ := new_tells l sz
  obtain ⟨b, i1, g1, e1, ok1⟩ := once_tells g 6 (ok_start sz) (by omega)
  by_cases c : b = true
  · obtain ⟨x, i2, g2, e2, ok2, hx⟩ := pick_tells g1 [(-1), 6, 7, 72, 3200, 100000, 100001, 9223372036854775807] ok1 (by simp)
    refine ⟨x, fun k hk => ?_, ?_⟩
    · unfold spec_DrawUnpackControl.f
      rw [e k hk]
      simp only [Option.bind_some, e1]
      rw [if_pos c]
      simp only [Option.bind_some, e2]
    · simp only [List.mem_cons, List.not_mem_nil, or_false] at hx
      omega
  · obtain ⟨x, i2, g2, e2, ok2, _⟩ := below_tells g1 3300 ok1 (by omega)
    refine ⟨x, fun k hk => ?_, by omega⟩
    unfold spec_DrawUnpackControl.f
    rw [e k hk]
    simp only [Option.bind_some, e1]
    rw [if_neg c]
    simp only [Option.bind_some, e2]
theorem FnControlWords : laws_FnControlWords.Pure := by
  intro l _ hl _
  obtain ⟨p, ep, hp, hin⟩ := places_tells l (by omega)
  obtain ⟨d, ed, hd⟩ := drawWord_tells l (by omega)
  refine ⟨l.length + 14, ?_⟩
  unfold laws_FnControlWords.f laws_big.f
  rw [ep _ (by omega), ed _ (by omega)]
  simp only [Option.bind_some, pack_eq]
  have h0 := rd_in 0 (by omega) (by omega) hin
  have h1 := rd_in 1 (by omega) (by omega) hin
  have h2 := rd_in 2 (by omega) (by omega) hin
  have t0 := tmod_in (rd p 0) 6 h0.1 (by omega)
  have t1 := tmod_in (rd p 1) 9 h1.1 (by omega)
  have t2 := tmod_in (rd p 2) 25 h2.1 (by omega)
  obtain ⟨t, et⟩ : ∃ z, Int.tmod (rd p 0) 6 = z := ⟨_, rfl⟩
  simp only [et] at t0 ⊢
  obtain ⟨c, ec⟩ : ∃ z, Int.tmod (rd p 1) 9 = z := ⟨_, rfl⟩
  simp only [ec] at t1 ⊢
  obtain ⟨n, en⟩ : ∃ z, Int.tmod (rd p 2) 25 = z := ⟨_, rfl⟩
  simp only [en] at t2 ⊢
  rw [if_pos (by omega : 0 ≤ t ∧ t ≤ 5 ∧ 0 ≤ c ∧ c ≤ 8 ∧ 0 ≤ n ∧ n ≤ 24)]
  split
  · rfl
  · rw [if_pos (by omega), if_pos (by omega), if_pos (by omega)]
    rw [unpack_eq _ (by omega), unpack_eq d hd]
    simp only [Option.bind_some]
    have hu : unp (t + 8 * (c + 16 * n)) = (t, c, n) := by
      unfold unp
      rw [if_pos (by omega)]
      refine Prod.ext ?_ (Prod.ext ?_ ?_) <;> simp only [] <;> omega
    rw [hu]
    simp only [if_true]
    rw [if_pos (by omega)]
    unfold unp
    by_cases hc : 0 ≤ d ∧ d % 8 ≤ 5 ∧ d / 8 % 16 ≤ 8 ∧ d / 128 ≤ 24
    · rw [if_pos hc]
      simp only []
      rw [if_neg (by omega), if_pos (by omega)]
      simp; omega
    · rw [if_neg hc]; simp

end Go.Proofs.Ytakdgpoiihjjlaa.Pure
