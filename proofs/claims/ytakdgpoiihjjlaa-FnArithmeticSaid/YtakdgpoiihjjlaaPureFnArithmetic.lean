/- Sums and products do not depend on the order, differences undo sums within the range, and all results are values, at every draw; no condition. -/
import Derived.Test.YtakdgpoiihjjlaaPFnArithmeticx2
namespace Go.Proofs.Ytakdgpoiihjjlaa.Pure
open Go.RowKit Go.Proofs.Ytakdgpoiihjjlaa.PFnArithmetic Go.Proofs.YtakdgpoiihjjlaaW.PrintWords Go.Proofs.YtakdgpoiihjjlaaW.PrintLast

theorem w64 {n : Int} (h1 : -9223372036854775808 ≤ n) (h2 : n ≤ 9223372036854775807) : wrap64 n = n := by unfold wrap64; omega
theorem w64_in (n : Int) : -9223372036854775808 ≤ wrap64 n ∧ wrap64 n ≤ 9223372036854775807 := by unfold wrap64; omega
theorem wf64 {n : Int} (h : (Lit.int .i64 n).wf = true) : -9223372036854775808 ≤ n ∧ n ≤ 9223372036854775807 := by
  simp only [Lit.wf, IntKind.min, IntKind.max, IntKind.signed, IntKind.bits, Bool.and_eq_true, decide_eq_true_eq, if_true] at h
  omega
theorem wfu8 {n : Int} (h : (Lit.int .u8 n).wf = true) : 0 ≤ n ∧ n ≤ 255 := by
  simp [Lit.wf, IntKind.min, IntKind.max, IntKind.signed, IntKind.bits] at h
  omega
theorem and_in (x : Int) (m : Nat) (hm : m < 9223372036854775808) : 0 ≤ Go.bits .and .i64 x (m : Int) ∧ Go.bits .and .i64 x (m : Int) ≤ m := by
  have h1 : (BitVec.ofInt 64 x &&& BitVec.ofInt 64 (m : Int)).toNat ≤ m := by
    rw [BitVec.toNat_and]
    refine Nat.le_trans Nat.and_le_right ?_
    rw [BitVec.ofInt_natCast, BitVec.toNat_ofNat]
    exact Nat.mod_le _ _
  have h2 : Go.bits .and .i64 x (m : Int) = IntKind.i64.wrap (((BitVec.ofInt 64 x &&& BitVec.ofInt 64 (m : Int)).toNat : Nat) : Int) := rfl
  rw [h2, Go.IntKind.wrap_i64]
  omega
theorem and255 (x : Int) : 0 ≤ Go.bits .and .i64 x 255 ∧ Go.bits .and .i64 x 255 ≤ 255 := and_in x 255 (by decide)
theorem tmod_in (x n : Int) (h0 : 0 ≤ x) (h : 1 ≤ n) : 0 ≤ Int.tmod x n ∧ Int.tmod x n < n := ⟨Int.tmod_nonneg _ h0, Int.tmod_lt_of_pos _ (by omega)⟩
theorem within_eq (a b c : Int) : impl_within.f a b c = some (decide (b ≤ a ∧ a ≤ c)) := by
  unfold impl_within.f
  by_cases h : a ≥ b
  · rw [if_pos h]; simp; omega
  · rw [if_neg h]; simp; omega
/-- A number clamped to a range. -/
def cl (a b c : Int) : Int := if c < b then b else if a < b then b else if c < a then c else a
/-- A number clamped to the range of values. -/
def sat (a : Int) : Int := cl a (-1000000) 1000000
theorem sat_in (a : Int) : -1000000 ≤ sat a ∧ sat a ≤ 1000000 := by unfold sat cl; omega
theorem sat_id {a : Int} (h1 : -1000000 ≤ a) (h2 : a ≤ 1000000) : sat a = a := by unfold sat cl; omega
theorem iclamp (a b c : Int) : impl_Clamp.f a b c = some (cl a b c) := by
  unfold impl_Clamp.f cl Go.Proofs.YtakdgpoiihjjlaaW.PrintWords.mx Go.Proofs.YtakdgpoiihjjlaaW.PrintWords.mn
  by_cases h : c < b
  · rw [if_pos h, if_pos h]
  · rw [if_neg h, if_neg h]
    congr 1
    by_cases h1 : a < b
    · simp only [if_pos h1]; rw [if_neg (by omega)]
    · simp only [if_neg h1]
theorem isat (a : Int) : impl_Saturate.f a = some (sat a) := by
  unfold impl_Saturate.f sat; rw [iclamp]; rfl
/-- The place of a cursor lies in its bytes. -/
structure OkC (l : List Int) (i : Int) : Prop where
  lo : 0 ≤ i
  hi : i ≤ l.length
  sz : (l.length : Int) ≤ 140737488351232
theorem byte_tells {l : List Int} {i : Int} (h : Int) (ok : OkC l i) : ∃ x i' h', spec_l01Byte.f l i h = some (x, i', h') ∧ OkC l i' ∧ 0 ≤ x ∧ x ≤ 255 := by
  obtain ⟨lo, hi, sz⟩ := ok
  unfold spec_l01Byte.f
  by_cases h1 : i < (l.length : Int)
  · rw [if_pos h1, if_pos lo]
    refine ⟨_, _, _, rfl, ?_, and255 _⟩
    rw [w64 (by omega) (by omega)]
    exact ⟨by omega, by omega, sz⟩
  · rw [if_neg h1]
    exact ⟨_, _, _, rfl, ⟨lo, hi, sz⟩, and255 _⟩
theorem below_tells {l : List Int} {i : Int} (h n : Int) (ok : OkC l i) (hn : 1 ≤ n) : ∃ x i' h', spec_l01Below.f l i h n = some (x, i', h') ∧ OkC l i' ∧ 0 ≤ x ∧ x < n := by
  unfold spec_l01Below.f
  rw [if_neg (by omega)]
  by_cases h1 : n ≤ 256
  · rw [if_pos h1]
    obtain ⟨x, i1, g1, e1, ok1, x0, x1⟩ := byte_tells h ok
    rw [e1]
    simp only [Option.bind_some]
    rw [if_neg (by omega)]
    exact ⟨_, _, _, rfl, ok1, tmod_in _ _ x0 hn⟩
  · rw [if_neg h1]
    obtain ⟨x, i1, g1, e1, ok1, x0, x1⟩ := byte_tells h ok
    obtain ⟨y, i2, g2, e2, ok2, y0, y1⟩ := byte_tells g1 ok1
    obtain ⟨z, i3, g3, e3, ok3, z0, z1⟩ := byte_tells g2 ok2
    obtain ⟨v, i4, g4, e4, ok4, v0, v1⟩ := byte_tells g3 ok3
    rw [e1]; simp only [Option.bind_some]
    rw [e2]; simp only [Option.bind_some]
    rw [e3]; simp only [Option.bind_some]
    rw [e4]; simp only [Option.bind_some]
    rw [if_neg (by omega)]
    refine ⟨_, _, _, rfl, ok4, tmod_in _ _ ?_ hn⟩
    rw [w64 (n := x * 16777216) (by omega) (by omega), w64 (n := y * 65536) (by omega) (by omega), w64 (n := z * 256) (by omega) (by omega)]
    rw [w64 (n := x * 16777216 + y * 65536) (by omega) (by omega), w64 (n := x * 16777216 + y * 65536 + z * 256) (by omega) (by omega)]
    rw [w64 (by omega) (by omega)]
    omega
theorem once_tells {l : List Int} {i : Int} (h n : Int) (ok : OkC l i) (hn : 1 ≤ n) : ∃ x i' h', spec_l01Once.f l i h n = some (x, i', h') ∧ OkC l i' := by
  obtain ⟨x, i1, g1, e1, ok1, _⟩ := below_tells h n ok hn
  unfold spec_l01Once.f
  rw [e1]
  exact ⟨_, _, _, rfl, ok1⟩
theorem rd_mem (xs : List Int) (i : Int) (h0 : 0 ≤ i) (h1 : i < (xs.length : Int)) : rd xs i ∈ xs := by
  have h : i.toNat < xs.length := by omega
  unfold Go.Proofs.YtakdgpoiihjjlaaW.PrintWords.rd
  rw [List.getD_eq_getElem?_getD, List.getElem?_eq_getElem h]
  exact List.getElem_mem h
theorem pick_tells {l : List Int} {i : Int} (h : Int) (xs : List Int) (ok : OkC l i) (hn : 1 ≤ xs.length) : ∃ x i' h', spec_l01PickInt.f l i h xs = some (x, i', h') ∧ OkC l i' ∧ x ∈ xs := by
  obtain ⟨x, i1, g1, e1, ok1, x0, x1⟩ := below_tells h (xs.length : Int) ok (by omega)
  unfold spec_l01PickInt.f
  rw [e1]
  simp only [Option.bind_some]
  rw [if_pos x0, if_pos x1]
  exact ⟨_, _, _, rfl, ok1, rd_mem xs x x0 x1⟩
theorem new_loop (l : List Int) (sz : (l.length : Int) ≤ 140737488351232) (d : Nat) : ∀ (k : Nat) (h i : Int), 0 ≤ i → i ≤ l.length → (l.length : Int) - i = d → d < k → ∃ g, spec_l01New.l0 k l h i = some (l, 0, g) := by
  induction d with
  | zero =>
    intro k h i h0 h1 hd hk
    obtain ⟨k, rfl⟩ : ∃ m, k = m + 1 := ⟨k - 1, by omega⟩
    exact ⟨h, by simp only [spec_l01New.l0]; rw [if_neg (by omega)]⟩
  | succ d ih =>
    intro k h i h0 h1 hd hk
    obtain ⟨k, rfl⟩ : ∃ m, k = m + 1 := ⟨k - 1, by omega⟩
    simp only [spec_l01New.l0]
    rw [if_pos (by omega)]
    by_cases c : i < 4000
    · rw [if_pos c, if_pos h0, w64 (n := i + 1) (by omega) (by omega)]
      exact ih k _ (i + 1) (by omega) (by omega) (by omega) (by omega)
    · rw [if_neg c]; exact ⟨h, rfl⟩
theorem new_tells (l : List Int) (sz : (l.length : Int) ≤ 140737488351232) : ∃ g, ∀ k, l.length < k → spec_l01New.f k l = some (l, 0, g) := by
  obtain ⟨g, e⟩ := new_loop l sz l.length (l.length + 1) (wrap64 (98347 + (l.length : Int))) 0 (by omega) (by omega) (by omega) (by omega)
  exact ⟨g, fun k hk => at_rounds (fun k => spec_l01New.mono l k) (by omega : l.length + 1 ≤ k) e⟩
theorem ok_start {l : List Int} (sz : (l.length : Int) ≤ 140737488351232) : OkC l 0 := ⟨by omega, by omega, sz⟩
theorem places_loop (l : List Int) (d : Nat) : ∀ (k : Nat) (out : List Int) (j i h : Int), OkC l i → 0 ≤ j → (out.length : Int) = j → 12 - j = d → d < k → (∀ x ∈ out, 0 ≤ x ∧ x < 10000) →
    ∃ r, spec_DrawPlaces.l0 k out j l i h = some r ∧ r.length = 12 ∧ ∀ x ∈ r, 0 ≤ x ∧ x < 10000 := by
  induction d with
  | zero =>
    intro k out j i h ok h0 hl hd hk ho
    obtain ⟨k, rfl⟩ : ∃ m, k = m + 1 := ⟨k - 1, by omega⟩
    exact ⟨out, by simp only [spec_DrawPlaces.l0]; rw [if_neg (by omega)], by omega, ho⟩
  | succ d ih =>
    intro k out j i h ok h0 hl hd hk ho
    obtain ⟨k, rfl⟩ : ∃ m, k = m + 1 := ⟨k - 1, by omega⟩
    simp only [spec_DrawPlaces.l0]
    obtain ⟨x, i1, g1, e1, ok1, x0, x1⟩ := below_tells h 10000 ok (by omega)
    rw [if_pos (by omega), e1]
    simp only [Option.bind_some]
    rw [if_pos (by omega), w64 (n := j + 1) (by omega) (by omega)]
    refine ih k (out ++ [x]) (j + 1) i1 g1 ok1 (by omega) (by simp; omega) (by omega) (by omega) ?_
    intro y hy
    rcases List.mem_append.1 hy with h | h
    · exact ho y h
    · rw [List.mem_singleton.1 h]; exact ⟨x0, x1⟩
theorem places_tells (l : List Int) (sz : (l.length : Int) ≤ 140737488351232) : ∃ r, (∀ k, l.length + 13 < k → spec_DrawPlaces.f k l = some r) ∧ r.length = 12 ∧ ∀ x ∈ r, 0 ≤ x ∧ x < 10000 := by
  obtain ⟨g, e⟩ := new_tells l sz
  obtain ⟨r, er, hr⟩ := places_loop l 12 13 [] 0 0 g (ok_start sz) (by omega) (by simp) (by omega) (by omega) (by simp)
  refine ⟨r, fun k hk => ?_, hr⟩
  unfold spec_DrawPlaces.f
  rw [e k (by omega)]
  simp only [Option.bind_some]
  exact at_rounds (fun k => spec_DrawPlaces.mono_l k _ _ _ _ _) (by omega : 13 ≤ k) er
theorem rd_in {r : List Int} (i : Int) (h0 : 0 ≤ i) (hl : i < (r.length : Int)) (h : ∀ x ∈ r, 0 ≤ x ∧ x < 10000) : 0 ≤ rd r i ∧ rd r i < 10000 := h _ (rd_mem r i h0 hl)
theorem any_tells {l : List Int} {i : Int} (h : Int) (ok : OkC l i) : ∃ x i' h', spec_l02Any.f l i h = some (x, i', h') ∧ OkC l i' ∧ -9223372036854775808 ≤ x ∧ x ≤ 9223372036854775807 := by
  obtain ⟨b, i1, g1, e1, ok1⟩ := once_tells h 8 ok (by omega)
  unfold spec_l02Any.f
  rw [e1]
  simp only [Option.bind_some]
  by_cases c : b = true
  · rw [if_pos c]
    obtain ⟨x, i2, g2, e2, ok2, hx⟩ := pick_tells g1 [9223372036854775807, (-9223372036854775808), 1000000, 1000001, (-1000000), (-1000001)] ok1 (by simp)
    rw [e2]
    refine ⟨_, _, _, rfl, ok2, ?_⟩
    simp only [List.mem_cons, List.not_mem_nil, or_false] at hx
    omega
  · rw [if_neg c]
    obtain ⟨x, i2, g2, e2, ok2, x0, x1⟩ := below_tells g1 4000 ok1 (by omega)
    rw [e2]
    refine ⟨_, _, _, rfl, ok2, ?_⟩
    rw [w64 (by omega) (by omega)]
    omega
theorem isValue_eq (a : Int) : impl_IsValue.f a = some (decide (-1000000 ≤ a ∧ a ≤ 1000000)) := by unfold impl_IsValue.f; rw [within_eq]; rfl
theorem sat_neg (a : Int) : sat (-a) = - sat a := by unfold sat cl; omega
theorem add_eq (a b : Int) : impl_AddValues.f a b = some (sat (sat a + sat b)) := by
  unfold impl_AddValues.f
  have h1 := sat_in a; have h2 := sat_in b
  simp only [isat, Option.bind_some]
  rw [w64 (by omega) (by omega)]
theorem sub_eq (a b : Int) : impl_SubValues.f a b = some (sat (sat a - sat b)) := by
  unfold impl_SubValues.f
  have h1 := sat_in a; have h2 := sat_in b
  simp only [isat, Option.bind_some]
  rw [w64 (by omega) (by omega)]
theorem mul_in {a b : Int} (n m : Int) (ha : -n ≤ a ∧ a ≤ n) (hb : -m ≤ b ∧ b ≤ m) : -(n * m) ≤ a * b ∧ a * b ≤ n * m := by
  have h1 : a.natAbs ≤ n.toNat := by omega
  have h2 : b.natAbs ≤ m.toNat := by omega
  have h3 : (a * b).natAbs ≤ n.toNat * m.toNat := by rw [Int.natAbs_mul]; exact Nat.mul_le_mul h1 h2
  have h4 : ((n.toNat * m.toNat : Nat) : Int) = n * m := by rw [Int.natCast_mul, Int.toNat_of_nonneg (by omega), Int.toNat_of_nonneg (by omega)]
  omega
theorem mul_eq (a b : Int) : impl_MulValues.f a b = some (sat (sat a * sat b)) := by
  unfold impl_MulValues.f
  have h1 := sat_in a; have h2 := sat_in b
  have h3 := mul_in 1000000 1000000 h1 h2
  simp only [isat, Option.bind_some]
  rw [w64 (by omega) (by omega)]
theorem tmod_abs (a : Int) : -100 ≤ Int.tmod a 100 ∧ Int.tmod a 100 ≤ 100 := by
  have h : (Int.tmod a 100).natAbs = a.natAbs % 100 := Int.natAbs_tmod a 100
  omega
theorem drawAdd_tells (l : List Int) (sz : (l.length : Int) ≤ 140737488351232) : ∃ a b, ∀ k, l.length < k → spec_DrawAddValues.f k l = some (a, b) := by
  obtain ⟨g, e⟩ := new_tells l sz
  obtain ⟨x, i1, g1, e1, ok1, _⟩ := any_tells g (ok_start sz)
  obtain ⟨y, i2, g2, e2, ok2, _⟩ := any_tells g1 ok1
  refine ⟨x, y, fun k hk => ?_⟩
  unfold spec_DrawAddValues.f
  rw [e k hk]
  simp only [Option.bind_some, e1, e2]
theorem FnArithmetic : laws_FnArithmetic.Pure := by
  intro l _ hl _
  obtain ⟨p, ep, hp, hin⟩ := places_tells l (by omega)
  obtain ⟨a, b, e⟩ := drawAdd_tells l (by omega)
  refine ⟨l.length + 15, ?_⟩
  unfold laws_FnArithmetic.f laws_big.f
  rw [e _ (by omega)]
  have h0 := rd_in 0 (by omega) (by omega) hin
  have h1 := rd_in 1 (by omega) (by omega) hin
  simp only [Option.bind_some, add_eq, sub_eq, mul_eq]
  rw [Int.add_comm (sat b) (sat a), Int.mul_comm (sat b) (sat a)]
  simp only [if_true]
  have hs1 := sat_in a; have hs2 := sat_in b
  have hs := sat_in (sat a - sat b)
  have hn : wrap64 (-(sat (sat b - sat a))) = sat (sat a - sat b) := by
    rw [← sat_neg, Int.neg_sub, w64 (by omega) (by omega)]
  rw [hn]
  have hb : (sat (sat a - sat b) != sat (sat a - sat b)) = false := by simp
  rw [hb]
  split
  · rfl
  · simp only [laws_FnArithmetic.j0, Bool.false_eq_true, if_false, isValue_eq, Option.bind_some]
    rw [ep _ (by omega)]
    simp only [Option.bind_some]
    rw [if_pos (by omega), if_pos (by omega)]
    have g1 := sat_in (sat a + sat b)
    have g3 := sat_in (sat a * sat b)
    rw [if_pos (by simp; omega), if_pos (by simp; omega), if_pos (by simp; omega)]
    generalize rd p 0 = x at *
    generalize rd p 1 = y at *
    rw [w64 (n := x - 5000) (by omega) (by omega), w64 (n := y - 5000) (by omega) (by omega)]
    simp only [add_eq, sub_eq, mul_eq, Option.bind_some]
    have ht : -100 ≤ Int.tmod (y - 5000) 100 ∧ Int.tmod (y - 5000) 100 ≤ 100 := tmod_abs _
    generalize Int.tmod (y - 5000) 100 = t at *
    have hx : sat (x - 5000) = x - 5000 := sat_id (by omega) (by omega)
    have hy : sat (y - 5000) = y - 5000 := sat_id (by omega) (by omega)
    have ht' : sat t = t := sat_id (by omega) (by omega)
    rw [hx, hy, ht']
    have hm := mul_in 5000 100 (a := x - 5000) (b := t) (by omega) (by omega)
    rw [w64 (n := (x - 5000) * t) (by omega) (by omega), sat_id (a := (x - 5000) * t) (by omega) (by omega)]
    rw [sat_id (a := x - 5000 + (y - 5000)) (by omega) (by omega), sat_id (a := x - 5000 + (y - 5000)) (by omega) (by omega)]
    rw [show x - 5000 + (y - 5000) - (y - 5000) = x - 5000 from by omega, hx]
    simp

end Go.Proofs.Ytakdgpoiihjjlaa.Pure
