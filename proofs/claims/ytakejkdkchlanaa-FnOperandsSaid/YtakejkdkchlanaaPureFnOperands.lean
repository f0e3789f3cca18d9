/- An operand is a constant or a variable, at every draw; no condition. -/
import Derived.Test.YtakejkdkchlanaaPFnOperandsx3
namespace Go.Proofs.Ytakejkdkchlanaa.Pure
open Go.RowKit Go.Proofs.Ytakejkdkchlanaa.PFnOperands Go.Proofs.YtakejkdkchlanaaW.PrintWords Go.Proofs.YtakejkdkchlanaaW.PrintLast
set_option linter.unusedVariables false
set_option linter.unusedSimpArgs false

theorem w64 {n : Int} (h1 : -9223372036854775808 ≤ n) (h2 : n ≤ 9223372036854775807) : wrap64 n = n := by unfold wrap64; omega
theorem w64_in (n : Int) : -9223372036854775808 ≤ wrap64 n ∧ wrap64 n ≤ 9223372036854775807 := by unfold wrap64; omega
theorem wf64 {n : Int} (h : (Lit.int .i64 n).wf = true) : -9223372036854775808 ≤ n ∧ n ≤ 9223372036854775807 := by
  simp only [Lit.wf, IntKind.min, IntKind.max, IntKind.signed, IntKind.bits, Bool.and_eq_true, decide_eq_true_eq, if_true] at h
  omega
theorem wfu8 {n : Int} (h : (Lit.int .u8 n).wf = true) : 0 ≤ n ∧ n ≤ 255 := by
  simp [Lit.wf, IntKind.min, IntKind.max, IntKind.signed, IntKind.bits] at h
  omega
theorem and_in (x : Int) (m : Nat) (hm : m < 9223372036854775808) : 0 ≤ Go.bits .and .i64 x (m : Int) ∧ Go.bits .and .i64 x (m : Int) ≤ m := by
  have h1 : (BitVec.ofInt 64 x &&& BitVec.ofInt 64 (m : Int)).toNat ≤ m := by
    rw [BitVec.toNat_and]
    refine Nat.le_trans Nat.and_le_right ?_
    rw [BitVec.ofInt_natCast, BitVec.toNat_ofNat]
    exact Nat.mod_le _ _
  have h2 : Go.bits .and .i64 x (m : Int) = IntKind.i64.wrap (((BitVec.ofInt 64 x &&& BitVec.ofInt 64 (m : Int)).toNat : Nat) : Int) := rfl
  rw [h2, Go.IntKind.wrap_i64]
  omega
theorem and255 (x : Int) : 0 ≤ Go.bits .and .i64 x 255 ∧ Go.bits .and .i64 x 255 ≤ 255 := and_in x 255 (by decide)
theorem tmod_in (x n : Int) (h0 : 0 ≤ x) (h : 1 ≤ n) : 0 ≤ Int.tmod x n ∧ Int.tmod x n < n := ⟨Int.tmod_nonneg _ h0, Int.tmod_lt_of_pos _ (by omega)⟩
theorem within_eq (a b c : Int) : impl_within.f a b c = some (decide (b ≤ a ∧ a ≤ c)) := by
  unfold impl_within.f
  by_cases h : a ≥ b
  · rw [if_pos h]; simp; omega
  · rw [if_neg h]; simp; omega
/-- The place of a cursor lies in its bytes. -/
structure OkC (l : List Int) (i : Int) : Prop where
  lo : 0 ≤ i
  hi : i ≤ l.length
  sz : (l.length : Int) ≤ 140737488351232
theorem byte_tells {l : List Int} {i : Int} (h : Int) (ok : OkC l i) : ∃ x i' h', spec_l01Byte.f l i h = some (x, i', h') ∧ OkC l i' ∧ 0 ≤ x ∧ x ≤ 255 := by
  obtain ⟨lo, hi, sz⟩ := ok
  unfold spec_l01Byte.f
  by_cases h1 : i < (l.length : Int)
  · rw [if_pos h1, if_pos lo]
    refine ⟨_, _, _, rfl, ?_, and255 _⟩
    rw [w64 (by omega) (by omega)]
    exact ⟨by omega, by omega, sz⟩
  · rw [if_neg h1]
    exact ⟨_, _, _, rfl, ⟨lo, hi, sz⟩, and255 _⟩
theorem below_tells {l : List Int} {i : Int} (h n : Int) (ok : OkC l i) (hn : 1 ≤ n) : ∃ x i' h', spec_l01Below.f l i h n = some (x, i', h') ∧ OkC l i' ∧ 0 ≤ x ∧ x < n := by
  unfold spec_l01Below.f
  rw [if_neg (by omega)]
  by_cases h1 : n ≤ 256
  · rw [if_pos h1]
    obtain ⟨x, i1, g1, e1, ok1, x0, x1⟩ := byte_tells h ok
    rw [e1]
    simp only [Option.bind_some]
    rw [if_neg (by omega)]
    exact ⟨_, _, _, rfl, ok1, tmod_in _ _ x0 hn⟩
  · rw [if_neg h1]
    obtain ⟨x, i1, g1, e1, ok1, x0, x1⟩ := byte_tells h ok
    obtain ⟨y, i2, g2, e2, ok2, y0, y1⟩ := byte_tells g1 ok1
    obtain ⟨z, i3, g3, e3, ok3, z0, z1⟩ := byte_tells g2 ok2
    obtain ⟨v, i4, g4, e4, ok4, v0, v1⟩ := byte_tells g3 ok3
    rw [e1]; simp only [Option.bind_some]
    rw [e2]; simp only [Option.bind_some]
    rw [e3]; simp only [Option.bind_some]
    rw [e4]; simp only [Option.bind_some]
    rw [if_neg (by omega)]
    refine ⟨_, _, _, rfl, ok4, tmod_in _ _ ?_ hn⟩
    rw [w64 (n := x * 16777216) (by omega) (by omega), w64 (n := y * 65536) (by omega) (by omega), w64 (n := z * 256) (by omega) (by omega)]
    rw [w64 (n := x * 16777216 + y * 65536) (by omega) (by omega), w64 (n := x * 16777216 + y * 65536 + z * 256) (by omega) (by omega)]
    rw [w64 (by omega) (by omega)]
    omega
theorem rd_mem (xs : List Int) (i : Int) (h0 : 0 ≤ i) (h1 : i < (xs.length : Int)) : rd xs i ∈ xs := by
  have h : i.toNat < xs.length := by omega
  unfold Go.Proofs.YtakejkdkchlanaaW.PrintWords.rd
  rw [List.getD_eq_getElem?_getD, List.getElem?_eq_getElem h]
  exact List.getElem_mem h
theorem pick_tells {l : List Int} {i : Int} (h : Int) (xs : List Int) (ok : OkC l i) (hn : 1 ≤ xs.length) : ∃ x i' h', spec_l01PickInt.f l i h xs = some (x, i', h') ∧ OkC l i' ∧ x ∈ xs := by
  obtain ⟨x, i1, g1, e1, ok1, x0, x1⟩ := below_tells h (xs.length : Int) ok (by omega)
  unfold spec_l01PickInt.f
  rw [e1]
  simp only [Option.bind_some]
  rw [if_pos x0, if_pos x1]
  exact ⟨_, _, _, rfl, ok1, rd_mem xs x x0 x1⟩
theorem new_loop (l : List Int) (sz : (l.length : Int) ≤ 140737488351232) (d : Nat) : ∀ (k : Nat) (h i : Int), 0 ≤ i → i ≤ l.length → (l.length : Int) - i = d → d < k → ∃ g, spec_l01New.l0 k l h i = some (l, 0, g) := by
  induction d with
  | zero =>
    intro k h i h0 h1 hd hk
    obtain ⟨k, rfl⟩ : ∃ m, k = m + 1 := ⟨k - 1, by omega⟩
    exact ⟨h, by simp only [spec_l01New.l0]; rw [if_neg (by omega)]⟩
  | succ d ih =>
    intro k h i h0 h1 hd hk
    obtain ⟨k, rfl⟩ : ∃ m, k = m + 1 := ⟨k - 1, by omega⟩
    simp only [spec_l01New.l0]
    rw [if_pos (by omega)]
    by_cases c : i < 4000
    · rw [if_pos c, if_pos h0, w64 (n := i + 1) (by omega) (by omega)]
      exact ih k _ (i + 1) (by omega) (by omega) (by omega) (by omega)
    · rw [if_neg c]; exact ⟨h, rfl⟩
theorem new_tells (l : List Int) (sz : (l.length : Int) ≤ 140737488351232) : ∃ g, ∀ k, l.length < k → spec_l01New.f k l = some (l, 0, g) := by
  obtain ⟨g, e⟩ := new_loop l sz l.length (l.length + 1) (wrap64 (98347 + (l.length : Int))) 0 (by omega) (by omega) (by omega) (by omega)
  exact ⟨g, fun k hk => at_rounds (fun k => spec_l01New.mono l k) (by omega : l.length + 1 ≤ k) e⟩
theorem ok_start {l : List Int} (sz : (l.length : Int) ≤ 140737488351232) : OkC l 0 := ⟨by omega, by omega, sz⟩
theorem places_loop (l : List Int) (d : Nat) : ∀ (k : Nat) (out : List Int) (j i h : Int), OkC l i → 0 ≤ j → (out.length : Int) = j → 12 - j = d → d < k → (∀ x ∈ out, 0 ≤ x ∧ x < 10000) →
    ∃ r, spec_DrawPlaces.l0 k out j l i h = some r ∧ r.length = 12 ∧ ∀ x ∈ r, 0 ≤ x ∧ x < 10000 := by
  induction d with
  | zero =>
    intro k out j i h ok h0 hl hd hk ho
    obtain ⟨k, rfl⟩ : ∃ m, k = m + 1 := ⟨k - 1, by omega⟩
    exact ⟨out, by simp only [spec_DrawPlaces.l0]; rw [if_neg (by omega)], by omega, ho⟩
  | succ d ih =>
    intro k out j i h ok h0 hl hd hk ho
    obtain ⟨k, rfl⟩ : ∃ m, k = m + 1 := ⟨k - 1, by omega⟩
    simp only [spec_DrawPlaces.l0]
    obtain ⟨x, i1, g1, e1, ok1, x0, x1⟩ := below_tells h 10000 ok (by omega)
    rw [if_pos (by omega), e1]
    simp only [Option.bind_some]
    rw [if_pos (by omega), w64 (n := j + 1) (by omega) (by omega)]
    refine ih k (out ++ [x]) (j + 1) i1 g1 ok1 (by omega) (by simp; omega) (by omega) (by omega) ?_
    intro y hy
    rcases List.mem_append.1 hy with h | h
    · exact ho y h
    · rw [List.mem_singleton.1 h]; exact ⟨x0, x1⟩
theorem places_tells (l : List Int) (sz : (l.length : Int) ≤ 140737488351232) : ∃ r, (∀ k, l.length + 13 < k → spec_DrawPlaces.f k l = some r) ∧ r.length = 12 ∧ ∀ x ∈ r, 0 ≤ x ∧ x < 10000 := by
  obtain ⟨g, e⟩ := new_tells l sz
  obtain ⟨r, er, hr⟩ := places_loop l 12 13 [] 0 0 g (ok_start sz) (by omega) (by simp) (by omega) (by omega) (by simp)
  refine ⟨r, fun k hk => ?_, hr⟩
  unfold spec_DrawPlaces.f
  rw [e k (by omega)]
  simp only [Option.bind_some]
  exact at_rounds (fun k => spec_DrawPlaces.mono_l k _ _ _ _ _) (by omega : 13 ≤ k) er
theorem rd_in {r : List Int} (i : Int) (h0 : 0 ≤ i) (hl : i < (r.length : Int)) (h : ∀ x ∈ r, 0 ≤ x ∧ x < 10000) : 0 ≤ rd r i ∧ rd r i < 10000 := h _ (rd_mem r i h0 hl)
/-- Eight values. -/
def vok (l : List Int) : Bool := decide (l.length = 8) && l.all fun x => decide (-1000000 ≤ x ∧ x ≤ 1000000)
theorem ivars (l : List Int) : impl_VarsOk.f l = some (vok l) := by
  unfold impl_VarsOk.f impl_areValues.f vok
  by_cases h : (l.length : Int) = 8
  · rw [if_pos h]
    have : l.length = 8 := by omega
    simp [this]
  · rw [if_neg h]
    have : ¬ l.length = 8 := by omega
    simp [this]
theorem vok_len {l : List Int} (h : vok l = true) : l.length = 8 := by
  unfold vok at h
  rw [Bool.and_eq_true] at h
  exact of_decide_eq_true h.1
theorem vok_in {l : List Int} (h : vok l = true) (i : Int) (h0 : 0 ≤ i) (h1 : i < 8) : -1000000 ≤ rd l i ∧ rd l i ≤ 1000000 := by
  have hl := vok_len h
  unfold vok at h
  rw [Bool.and_eq_true, List.all_eq_true] at h
  have hi : i.toNat < l.length := by omega
  have h2 := h.2 _ (List.getElem_mem hi)
  have hr : rd l i = l[i.toNat] := by
    unfold Go.Proofs.YtakejkdkchlanaaW.PrintWords.rd
    rw [List.getD_eq_getElem?_getD, List.getElem?_eq_getElem hi]
    rfl
  rw [hr]
  exact of_decide_eq_true h2
theorem vars_loop (l : List Int) (d : Nat) : ∀ (k : Nat) (out : List Int) (j i h : Int), OkC l i → 0 ≤ j → (out.length : Int) = j → 8 - j = d → d < k → (∀ x ∈ out, -1000000 ≤ x ∧ x ≤ 1000000) →
    ∃ r i' h', spec_l03Vars.l0 k out j l i h = some (r, i', h') ∧ OkC l i' ∧ r.length = 8 ∧ ∀ x ∈ r, -1000000 ≤ x ∧ x ≤ 1000000 := by
  induction d with
  | zero =>
    intro k out j i h ok h0 hl hd hk ho
    obtain ⟨k, rfl⟩ : ∃ m, k = m + 1 := ⟨k - 1, by omega⟩
    exact ⟨out, i, h, by simp only [spec_l03Vars.l0]; rw [if_neg (by omega)], ok, by omega, ho⟩
  | succ d ih =>
    intro k out j i h ok h0 hl hd hk ho
    obtain ⟨k, rfl⟩ : ∃ m, k = m + 1 := ⟨k - 1, by omega⟩
    simp only [spec_l03Vars.l0]
    obtain ⟨x, i1, g1, e1, ok1, x0, x1⟩ := below_tells h 2000 ok (by omega)
    rw [if_pos (by omega), e1]
    simp only [Option.bind_some]
    rw [w64 (n := x - 1000) (by omega) (by omega)]
    obtain ⟨y, i2, g2, e2, ok2, hy⟩ := pick_tells g1 [0, 1, 2, 5, x - 1000, 1000000] ok1 (by simp)
    rw [e2]
    simp only [Option.bind_some]
    rw [if_pos (by omega), w64 (n := j + 1) (by omega) (by omega)]
    refine ih k (out ++ [y]) (j + 1) i2 g2 ok2 (by omega) (by simp; omega) (by omega) (by omega) ?_
    intro z hz
    rcases List.mem_append.1 hz with h | h
    · exact ho z h
    · rw [List.mem_singleton.1 h]
      simp only [List.mem_cons, List.not_mem_nil, or_false] at hy
      omega
theorem vok_of {l : List Int} (h1 : l.length = 8) (h2 : ∀ x ∈ l, -1000000 ≤ x ∧ x ≤ 1000000) : vok l = true := by
  unfold vok
  rw [Bool.and_eq_true, List.all_eq_true]
  exact ⟨decide_eq_true h1, fun x hx => decide_eq_true (h2 x hx)⟩
theorem vars3_tells {l : List Int} {i : Int} (h : Int) (ok : OkC l i) : ∃ r i' h', (∀ k, 9 ≤ k → spec_l03Vars.f k l i h = some (r, i', h')) ∧ OkC l i' ∧ vok r = true := by
  obtain ⟨r, i', h', e, ok', hl, hr⟩ := vars_loop l 8 9 [] 0 i h ok (by omega) (by simp) (by omega) (by omega) (by simp)
  refine ⟨r, i', h', fun k hk => ?_, ok', vok_of hl hr⟩
  unfold spec_l03Vars.f
  exact at_rounds (fun k => spec_l03Vars.mono_l k _ _ _ _ _) hk e
theorem drawVars_tells (l : List Int) (sz : (l.length : Int) ≤ 140737488351232) : ∃ r, (∀ k, l.length + 9 < k → spec_DrawVars.f k l = some r) ∧ vok r = true := by
  obtain ⟨g, e⟩ := new_tells l sz
  obtain ⟨r, i', h', e1, _, hv⟩ := vars3_tells g (ok_start sz)
  refine ⟨r, fun k hk => ?_, hv⟩
  unfold spec_DrawVars.f
  rw [e k (by omega)]
  simp only [Option.bind_some]
  rw [e1 k (by omega)]
  simp only [Option.bind_some]
theorem operand_val {l : List Int} (hv : vok l = true) (n : Int) (hn : -8 ≤ n ∧ n ≤ 999) : impl_OperandValue.f l n = some (if n < 0 then rd l (-1 - n) else n) := by
  have hl := vok_len hv
  unfold impl_OperandValue.f impl_OperandOk.f
  rw [within_eq, ivars]
  simp only [Option.bind_some]
  rw [if_pos (by simp; omega), if_pos hv]
  unfold impl_operand.f
  by_cases c : n < 0
  · rw [if_pos c, if_pos c, w64 (by omega) (by omega), if_pos (by omega), if_pos (by omega)]
    rfl
  · rw [if_neg c, if_neg c]
    rfl
theorem FnOperands : laws_FnOperands.Pure := by
  intro l _ hl _
  obtain ⟨p, ep, hp, hin⟩ := places_tells l (by omega)
  obtain ⟨v, ev, hv⟩ := drawVars_tells l (by omega)
  have hvl := vok_len hv
  refine ⟨l.length + 14, ?_⟩
  unfold laws_FnOperands.f laws_big.f
  rw [ep _ (by omega), ev _ (by omega)]
  simp only [Option.bind_some]
  split
  · rfl
  · rw [if_pos (by omega), if_pos (by omega)]
    have h0 := rd_in 0 (by omega) (by omega) hin
    have h1 := rd_in 1 (by omega) (by omega) hin
    have t0 := tmod_in (rd p 0) 8 h0.1 (by omega)
    have t1 := tmod_in (rd p 1) 1000 h1.1 (by omega)
    generalize Int.tmod (rd p 0) 8 = t at *
    generalize Int.tmod (rd p 1) 1000 = n at *
    rw [w64 (n := -1 - t) (by omega) (by omega), operand_val hv (-1 - t) (by omega), operand_val hv n (by omega)]
    simp only [Option.bind_some]
    have e1 : (if -1 - t < 0 then rd v (-1 - (-1 - t)) else -1 - t) = rd v t := by
      rw [if_pos (by omega)]
      congr 1
      omega
    have e2 : (if n < 0 then rd v (-1 - n) else n) = n := by rw [if_neg (by omega)]
    rw [e1, e2, if_pos (by omega), if_pos (by omega), if_pos rfl, if_pos rfl]
    unfold impl_OperandOk.f
    rw [within_eq, within_eq]
    simp only [Option.bind_some]
    rw [if_pos (by simp; omega)]
    simp; omega

end Go.Proofs.Ytakejkdkchlanaa.Pure
