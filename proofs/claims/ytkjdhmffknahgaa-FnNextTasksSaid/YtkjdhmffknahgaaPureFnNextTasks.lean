/- A drawn program's next task is the reference's, it is a task, and it depends on no variable that its expression doesn't read, at every draw; no condition. -/
import Derived.Test.YtkjdhmffknahgaaPFnNextTasksx12
import Derived.Lib.SlicesCompact
namespace Go.Proofs.Ytkjdhmffknahgaa.Pure
open Go.RowKit Go.Proofs.Ytkjdhmffknahgaa.PFnNextTasks Go.Proofs.YtkjdhmffknahgaaW.PrintWords Go.Proofs.YtkjdhmffknahgaaW.PrintLast
set_option linter.unusedVariables false
set_option linter.unusedSimpArgs false

theorem w64 {n : Int} (h1 : -9223372036854775808 ≤ n) (h2 : n ≤ 9223372036854775807) : wrap64 n = n := by unfold wrap64; omega
theorem w64_in (n : Int) : -9223372036854775808 ≤ wrap64 n ∧ wrap64 n ≤ 9223372036854775807 := by unfold wrap64; omega
theorem wf64 {n : Int} (h : (Lit.int .i64 n).wf = true) : -9223372036854775808 ≤ n ∧ n ≤ 9223372036854775807 := by
  simp only [Lit.wf, IntKind.min, IntKind.max, IntKind.signed, IntKind.bits, Bool.and_eq_true, decide_eq_true_eq, if_true] at h
  omega
theorem wfu8 {n : Int} (h : (Lit.int .u8 n).wf = true) : 0 ≤ n ∧ n ≤ 255 := by
  simp [Lit.wf, IntKind.min, IntKind.max, IntKind.signed, IntKind.bits] at h
  omega
theorem and_in (x : Int) (m : Nat) (hm : m < 9223372036854775808) : 0 ≤ Go.bits .and .i64 x (m : Int) ∧ Go.bits .and .i64 x (m : Int) ≤ m := by
  have h1 : (BitVec.ofInt 64 x &&& BitVec.ofInt 64 (m : Int)).toNat ≤ m := by
    rw [BitVec.toNat_and]
    refine Nat.le_trans Nat.and_le_right ?_
    rw [BitVec.ofInt_natCast, BitVec.toNat_ofNat]
    exact Nat.mod_le _ _
  have h2 : Go.bits .and .i64 x (m : Int) = IntKind.i64.wrap (((BitVec.ofInt 64 x &&& BitVec.ofInt 64 (m : Int)).toNat : Nat) : Int) := rfl
  rw [h2, Go.IntKind.wrap_i64]
  omega
theorem and255 (x : Int) : 0 ≤ Go.bits .and .i64 x 255 ∧ Go.bits .and .i64 x 255 ≤ 255 := and_in x 255 (by decide)
theorem tmod_in (x n : Int) (h0 : 0 ≤ x) (h : 1 ≤ n) : 0 ≤ Int.tmod x n ∧ Int.tmod x n < n := ⟨Int.tmod_nonneg _ h0, Int.tmod_lt_of_pos _ (by omega)⟩
theorem in_eq (a b c : Int) : spec_l01In.f a b c = some (decide (b ≤ a ∧ a ≤ c)) := by
  unfold spec_l01In.f
  by_cases h : a ≥ b
  · rw [if_pos h]; simp; omega
  · rw [if_neg h]; simp; omega
theorem within_eq (a b c : Int) : impl_within.f a b c = some (decide (b ≤ a ∧ a ≤ c)) := by
  unfold impl_within.f
  by_cases h : a ≥ b
  · rw [if_pos h]; simp; omega
  · rw [if_neg h]; simp; omega
/-- The place of a cursor lies in its bytes. -/
structure OkC (l : List Int) (i : Int) : Prop where
  lo : 0 ≤ i
  hi : i ≤ l.length
  sz : (l.length : Int) ≤ 140737488351232
theorem byte_tells {l : List Int} {i : Int} (h : Int) (ok : OkC l i) : ∃ x i' h', spec_l01Byte.f l i h = some (x, i', h') ∧ OkC l i' ∧ 0 ≤ x ∧ x ≤ 255 := by
  obtain ⟨lo, hi, sz⟩ := ok
  unfold spec_l01Byte.f
  by_cases h1 : i < (l.length : Int)
  · rw [if_pos h1, if_pos lo]
    refine ⟨_, _, _, rfl, ?_, and255 _⟩
    rw [w64 (by omega) (by omega)]
    exact ⟨by omega, by omega, sz⟩
  · rw [if_neg h1]
    exact ⟨_, _, _, rfl, ⟨lo, hi, sz⟩, and255 _⟩
theorem below_tells {l : List Int} {i : Int} (h n : Int) (ok : OkC l i) (hn : 1 ≤ n) : ∃ x i' h', spec_l01Below.f l i h n = some (x, i', h') ∧ OkC l i' ∧ 0 ≤ x ∧ x < n := by
  unfold spec_l01Below.f
  rw [if_neg (by omega)]
  by_cases h1 : n ≤ 256
  · rw [if_pos h1]
    obtain ⟨x, i1, g1, e1, ok1, x0, x1⟩ := byte_tells h ok
    rw [e1]
    simp only [Option.bind_some]
    rw [if_neg (by omega)]
    exact ⟨_, _, _, rfl, ok1, tmod_in _ _ x0 hn⟩
  · rw [if_neg h1]
    obtain ⟨x, i1, g1, e1, ok1, x0, x1⟩ := byte_tells h ok
    obtain ⟨y, i2, g2, e2, ok2, y0, y1⟩ := byte_tells g1 ok1
    obtain ⟨z, i3, g3, e3, ok3, z0, z1⟩ := byte_tells g2 ok2
    obtain ⟨v, i4, g4, e4, ok4, v0, v1⟩ := byte_tells g3 ok3
    rw [e1]; simp only [Option.bind_some]
    rw [e2]; simp only [Option.bind_some]
    rw [e3]; simp only [Option.bind_some]
    rw [e4]; simp only [Option.bind_some]
    rw [if_neg (by omega)]
    refine ⟨_, _, _, rfl, ok4, tmod_in _ _ ?_ hn⟩
    rw [w64 (n := x * 16777216) (by omega) (by omega), w64 (n := y * 65536) (by omega) (by omega), w64 (n := z * 256) (by omega) (by omega)]
    rw [w64 (n := x * 16777216 + y * 65536) (by omega) (by omega), w64 (n := x * 16777216 + y * 65536 + z * 256) (by omega) (by omega)]
    rw [w64 (by omega) (by omega)]
    omega
theorem once_tells {l : List Int} {i : Int} (h n : Int) (ok : OkC l i) (hn : 1 ≤ n) : ∃ x i' h', spec_l01Once.f l i h n = some (x, i', h') ∧ OkC l i' := by
  obtain ⟨x, i1, g1, e1, ok1, _⟩ := below_tells h n ok hn
  unfold spec_l01Once.f
  rw [e1]
  exact ⟨_, _, _, rfl, ok1⟩
theorem rd_mem (xs : List Int) (i : Int) (h0 : 0 ≤ i) (h1 : i < (xs.length : Int)) : rd xs i ∈ xs := by
  have h : i.toNat < xs.length := by omega
  unfold Go.Proofs.YtkjdhmffknahgaaW.PrintWords.rd
  rw [List.getD_eq_getElem?_getD, List.getElem?_eq_getElem h]
  exact List.getElem_mem h
theorem pick_tells {l : List Int} {i : Int} (h : Int) (xs : List Int) (ok : OkC l i) (hn : 1 ≤ xs.length) : ∃ x i' h', spec_l01PickInt.f l i h xs = some (x, i', h') ∧ OkC l i' ∧ x ∈ xs := by
  obtain ⟨x, i1, g1, e1, ok1, x0, x1⟩ := below_tells h (xs.length : Int) ok (by omega)
  unfold spec_l01PickInt.f
  rw [e1]
  simp only [Option.bind_some]
  rw [if_pos x0, if_pos x1]
  exact ⟨_, _, _, rfl, ok1, rd_mem xs x x0 x1⟩
theorem new_loop (l : List Int) (sz : (l.length : Int) ≤ 140737488351232) (d : Nat) : ∀ (k : Nat) (h i : Int), 0 ≤ i → i ≤ l.length → (l.length : Int) - i = d → d < k → ∃ g, spec_l01New.l0 k l h i = some (l, 0, g) := by
  induction d with
  | zero =>
    intro k h i h0 h1 hd hk
    obtain ⟨k, rfl⟩ : ∃ m, k = m + 1 := ⟨k - 1, by omega⟩
    exact ⟨h, by simp only [spec_l01New.l0]; rw [if_neg (by omega)]⟩
  | succ d ih =>
    intro k h i h0 h1 hd hk
    obtain ⟨k, rfl⟩ : ∃ m, k = m + 1 := ⟨k - 1, by omega⟩
    simp only [spec_l01New.l0]
    rw [if_pos (by omega)]
    by_cases c : i < 4000
    · rw [if_pos c, if_pos h0, w64 (n := i + 1) (by omega) (by omega)]
      exact ih k _ (i + 1) (by omega) (by omega) (by omega) (by omega)
    · rw [if_neg c]; exact ⟨h, rfl⟩
theorem new_tells (l : List Int) (sz : (l.length : Int) ≤ 140737488351232) : ∃ g, ∀ k, l.length < k → spec_l01New.f k l = some (l, 0, g) := by
  obtain ⟨g, e⟩ := new_loop l sz l.length (l.length + 1) (wrap64 (98347 + (l.length : Int))) 0 (by omega) (by omega) (by omega) (by omega)
  exact ⟨g, fun k hk => at_rounds (fun k => spec_l01New.mono l k) (by omega : l.length + 1 ≤ k) e⟩
theorem ok_start {l : List Int} (sz : (l.length : Int) ≤ 140737488351232) : OkC l 0 := ⟨by omega, by omega, sz⟩
theorem places_loop (l : List Int) (d : Nat) : ∀ (k : Nat) (out : List Int) (j i h : Int), OkC l i → 0 ≤ j → (out.length : Int) = j → 12 - j = d → d < k → (∀ x ∈ out, 0 ≤ x ∧ x < 10000) →
    ∃ r, spec_DrawPlaces.l0 k out j l i h = some r ∧ r.length = 12 ∧ ∀ x ∈ r, 0 ≤ x ∧ x < 10000 := by
  induction d with
  | zero =>
    intro k out j i h ok h0 hl hd hk ho
    obtain ⟨k, rfl⟩ : ∃ m, k = m + 1 := ⟨k - 1, by omega⟩
    exact ⟨out, by simp only [spec_DrawPlaces.l0]; rw [if_neg (by omega)], by omega, ho⟩
  | succ d ih =>
    intro k out j i h ok h0 hl hd hk ho
    obtain ⟨k, rfl⟩ : ∃ m, k = m + 1 := ⟨k - 1, by omega⟩
    simp only [spec_DrawPlaces.l0]
    obtain ⟨x, i1, g1, e1, ok1, x0, x1⟩ := below_tells h 10000 ok (by omega)
    rw [if_pos (by omega), e1]
    simp only [Option.bind_some]
    rw [if_pos (by omega), w64 (n := j + 1) (by omega) (by omega)]
    refine ih k (out ++ [x]) (j + 1) i1 g1 ok1 (by omega) (by simp; omega) (by omega) (by omega) ?_
    intro y hy
    rcases List.mem_append.1 hy with h | h
    · exact ho y h
    · rw [List.mem_singleton.1 h]; exact ⟨x0, x1⟩
theorem places_tells (l : List Int) (sz : (l.length : Int) ≤ 140737488351232) : ∃ r, (∀ k, l.length + 13 < k → spec_DrawPlaces.f k l = some r) ∧ r.length = 12 ∧ ∀ x ∈ r, 0 ≤ x ∧ x < 10000 := by
  obtain ⟨g, e⟩ := new_tells l sz
  obtain ⟨r, er, hr⟩ := places_loop l 12 13 [] 0 0 g (ok_start sz) (by omega) (by simp) (by omega) (by omega) (by simp)
  refine ⟨r, fun k hk => ?_, hr⟩
  unfold spec_DrawPlaces.f
  rw [e k (by omega)]
  simp only [Option.bind_some]
  exact at_rounds (fun k => spec_DrawPlaces.mono_l k _ _ _ _ _) (by omega : 13 ≤ k) er
theorem rd_in {r : List Int} (i : Int) (h0 : 0 ≤ i) (hl : i < (r.length : Int)) (h : ∀ x ∈ r, 0 ≤ x ∧ x < 10000) : 0 ≤ rd r i ∧ rd r i < 10000 := h _ (rd_mem r i h0 hl)
/-- Eight values. -/
def vok (l : List Int) : Bool := decide (l.length = 8) && l.all fun x => decide (-1000000 ≤ x ∧ x ≤ 1000000)
theorem ivars (l : List Int) : impl_VarsOk.f l = some (vok l) := by
  unfold impl_VarsOk.f impl_areValues.f vok
  by_cases h : (l.length : Int) = 8
  · rw [if_pos h]
    have : l.length = 8 := by omega
    simp [this]
  · rw [if_neg h]
    have : ¬ l.length = 8 := by omega
    simp [this]
theorem svars_loop (l : List Int) (sz : (l.length : Int) ≤ 140737488351232) (d : Nat) : ∀ (k : Nat) (i : Int), 0 ≤ i → i ≤ l.length → (l.length : Int) - i = d → d < k → (∀ j : Nat, (j : Int) < i → decide (-1000000 ≤ rd l j ∧ rd l j ≤ 1000000) = true) →
    spec_VarsOk.l0 k l i = some (vok l) := by
  induction d with
  | zero =>
    intro k i h0 h1 hd hk hA
    obtain ⟨k, rfl⟩ : ∃ m, k = m + 1 := ⟨k - 1, by omega⟩
    simp only [spec_VarsOk.l0]
    rw [if_neg (by omega)]
    have h := impl_areValues.none l i (by omega) hA
    unfold vok
    rw [h, Bool.and_true]
    congr 1
    by_cases e : l.length = 8
    · simp [e]
    · have : ¬ (l.length : Int) = 8 := by omega
      simp [e, this]
  | succ d ih =>
    intro k i h0 h1 hd hk hA
    obtain ⟨k, rfl⟩ : ∃ m, k = m + 1 := ⟨k - 1, by omega⟩
    simp only [spec_VarsOk.l0]
    rw [if_pos (by omega), if_pos h0]
    unfold spec_IsValue.f
    rw [in_eq]
    simp only [Option.bind_some]
    by_cases c : decide (-1000000 ≤ rd l i ∧ rd l i ≤ 1000000) = true
    · rw [if_pos c, w64 (n := i + 1) (by omega) (by omega)]
      exact ih k (i + 1) (by omega) (by omega) (by omega) (by omega) (impl_areValues.before l i h0 (by omega) hA c)
    · rw [if_neg c]
      have h := impl_areValues.some_ l i h0 (by omega) (Bool.eq_false_iff.mpr c)
      unfold vok
      rw [h, Bool.and_false]
theorem svars (l : List Int) (sz : (l.length : Int) ≤ 140737488351232) : ∀ k, l.length < k → spec_VarsOk.f k l = some (vok l) := by
  intro k hk
  unfold spec_VarsOk.f
  exact svars_loop l sz l.length k 0 (by omega) (by omega) (by omega) hk (fun j hj => by omega)
theorem vok_len {l : List Int} (h : vok l = true) : l.length = 8 := by
  unfold vok at h
  rw [Bool.and_eq_true] at h
  exact of_decide_eq_true h.1
theorem vok_in {l : List Int} (h : vok l = true) (i : Int) (h0 : 0 ≤ i) (h1 : i < 8) : -1000000 ≤ rd l i ∧ rd l i ≤ 1000000 := by
  have hl := vok_len h
  unfold vok at h
  rw [Bool.and_eq_true, List.all_eq_true] at h
  have hi : i.toNat < l.length := by omega
  have h2 := h.2 _ (List.getElem_mem hi)
  have hr : rd l i = l[i.toNat] := by
    unfold Go.Proofs.YtkjdhmffknahgaaW.PrintWords.rd
    rw [List.getD_eq_getElem?_getD, List.getElem?_eq_getElem hi]
    rfl
  rw [hr]
  exact of_decide_eq_true h2
theorem vars_loop (l : List Int) (d : Nat) : ∀ (k : Nat) (out : List Int) (j i h : Int), OkC l i → 0 ≤ j → (out.length : Int) = j → 8 - j = d → d < k → (∀ x ∈ out, -1000000 ≤ x ∧ x ≤ 1000000) →
    ∃ r i' h', spec_l03Vars.l0 k out j l i h = some (r, i', h') ∧ OkC l i' ∧ r.length = 8 ∧ ∀ x ∈ r, -1000000 ≤ x ∧ x ≤ 1000000 := by
  induction d with
  | zero =>
    intro k out j i h ok h0 hl hd hk ho
    obtain ⟨k, rfl⟩ : ∃ m, k = m + 1 := ⟨k - 1, by omega⟩
    exact ⟨out, i, h, by simp only [spec_l03Vars.l0]; rw [if_neg (by omega)], ok, by omega, ho⟩
  | succ d ih =>
    intro k out j i h ok h0 hl hd hk ho
    obtain ⟨k, rfl⟩ : ∃ m, k = m + 1 := ⟨k - 1, by omega⟩
    simp only [spec_l03Vars.l0]
    obtain ⟨x, i1, g1, e1, ok1, x0, x1⟩ := below_tells h 2000 ok (by omega)
    rw [if_pos (by omega), e1]
    simp only [Option.bind_some]
    rw [w64 (n := x - 1000) (by omega) (by omega)]
    obtain ⟨y, i2, g2, e2, ok2, hy⟩ := pick_tells g1 [0, 1, 2, 5, x - 1000, 1000000] ok1 (by simp)
    rw [e2]
    simp only [Option.bind_some]
    rw [if_pos (by omega), w64 (n := j + 1) (by omega) (by omega)]
    refine ih k (out ++ [y]) (j + 1) i2 g2 ok2 (by omega) (by simp; omega) (by omega) (by omega) ?_
    intro z hz
    rcases List.mem_append.1 hz with h | h
    · exact ho z h
    · rw [List.mem_singleton.1 h]
      simp only [List.mem_cons, List.not_mem_nil, or_false] at hy
      omega
theorem vok_of {l : List Int} (h1 : l.length = 8) (h2 : ∀ x ∈ l, -1000000 ≤ x ∧ x ≤ 1000000) : vok l = true := by
  unfold vok
  rw [Bool.and_eq_true, List.all_eq_true]
  exact ⟨decide_eq_true h1, fun x hx => decide_eq_true (h2 x hx)⟩
theorem vars3_tells {l : List Int} {i : Int} (h : Int) (ok : OkC l i) : ∃ r i' h', (∀ k, 9 ≤ k → spec_l03Vars.f k l i h = some (r, i', h')) ∧ OkC l i' ∧ vok r = true := by
  obtain ⟨r, i', h', e, ok', hl, hr⟩ := vars_loop l 8 9 [] 0 i h ok (by omega) (by simp) (by omega) (by omega) (by simp)
  refine ⟨r, i', h', fun k hk => ?_, ok', vok_of hl hr⟩
  unfold spec_l03Vars.f
  exact at_rounds (fun k => spec_l03Vars.mono_l k _ _ _ _ _) hk e
theorem drawVars_tells (l : List Int) (sz : (l.length : Int) ≤ 140737488351232) : ∃ r, (∀ k, l.length + 9 < k → spec_DrawVars.f k l = some r) ∧ vok r = true := by
  obtain ⟨g, e⟩ := new_tells l sz
  obtain ⟨r, i', h', e1, _, hv⟩ := vars3_tells g (ok_start sz)
  refine ⟨r, fun k hk => ?_, hv⟩
  unfold spec_DrawVars.f
  rw [e k (by omega)]
  simp only [Option.bind_some]
  rw [e1 k (by omega)]
  simp only [Option.bind_some]
/-- A valid expression. -/
def eok (o a b : Int) : Bool := decide (1 ≤ o ∧ o ≤ 7) && (decide (-8 ≤ a ∧ a ≤ 999) && decide (-8 ≤ b ∧ b ≤ 999))
theorem iexpr (o a b : Int) : impl_ExprOk.f o a b = some (eok o a b) := by
  unfold impl_ExprOk.f impl_OperandOk.f eok
  simp only [within_eq, Option.bind_some]
  cases decide (1 ≤ o ∧ o ≤ 7) <;> cases decide (-8 ≤ a ∧ a ≤ 999) <;> simp
theorem eok_in {o a b : Int} (h : eok o a b = true) : (1 ≤ o ∧ o ≤ 7) ∧ (-8 ≤ a ∧ a ≤ 999) ∧ (-8 ≤ b ∧ b ≤ 999) := by
  unfold eok at h
  simp only [Bool.and_eq_true, decide_eq_true_eq] at h
  exact h
theorem sexpr (o a b : Int) : spec_ExprOk.f o a b = some (eok o a b) := by
  unfold spec_ExprOk.f spec_OperandOk.f eok
  simp only [in_eq, Option.bind_some]
  cases decide (1 ≤ o ∧ o ≤ 7) <;> cases decide (-8 ≤ a ∧ a ≤ 999) <;> simp
/-- A number clamped to a range. -/
def cl (a b c : Int) : Int := if c < b then b else if a < b then b else if c < a then c else a
/-- A number clamped to the range of values. -/
def sat (a : Int) : Int := cl a (-1000000) 1000000
theorem sat_in (a : Int) : -1000000 ≤ sat a ∧ sat a ≤ 1000000 := by unfold sat cl; omega
theorem sat_id {a : Int} (h1 : -1000000 ≤ a) (h2 : a ≤ 1000000) : sat a = a := by unfold sat cl; omega
theorem iclamp (a b c : Int) : impl_Clamp.f a b c = some (cl a b c) := by
  unfold impl_Clamp.f cl Go.Proofs.YtkjdhmffknahgaaW.PrintWords.mx Go.Proofs.YtkjdhmffknahgaaW.PrintWords.mn
  by_cases h : c < b
  · rw [if_pos h, if_pos h]
  · rw [if_neg h, if_neg h]
    congr 1
    by_cases h1 : a < b
    · simp only [if_pos h1]; rw [if_neg (by omega)]
    · simp only [if_neg h1]
theorem sclamp (k : Nat) (hk : 1 ≤ k) (a b c : Int) : spec_Clamp.f k a b c = some (cl a b c) := by
  obtain ⟨k, rfl⟩ : ∃ m, k = m + 1 := ⟨k - 1, by omega⟩
  unfold spec_Clamp.f cl
  by_cases h : c < b
  · rw [if_pos h, if_pos h]; simp [spec_Clamp.j0]
  · rw [if_neg h, if_neg h]
    simp only [spec_Clamp.j0]
    by_cases h1 : a < b
    · simp [h1]
    · by_cases h2 : a > c
      · simp [h1, h2]
      · have h3 : ¬ c < a := by omega
        simp [h1, h3]
theorem isat (a : Int) : impl_Saturate.f a = some (sat a) := by
  unfold impl_Saturate.f sat; rw [iclamp]; rfl
theorem ssat (k : Nat) (hk : 1 ≤ k) (a : Int) : spec_Saturate.f k a = some (sat a) := by
  unfold spec_Saturate.f sat; rw [sclamp k hk]; rfl
/-- A valid statement. -/
def zok (o a b : Int) : Bool := decide (o = 0) && (decide (a = 0) && decide (b = 0))
def sok (c v n o a b : Int) : Bool :=
  if c = 1 then decide (0 ≤ v ∧ v ≤ 7) && (decide (n = 0) && eok o a b)
  else if c = 2 then decide (0 ≤ v ∧ v ≤ 7) && (decide (0 ≤ n ∧ n ≤ 3) && zok o a b)
  else if c = 3 then decide (v = 0) && (decide (n = 0) && eok o a b)
  else if c = 4 then decide (v = 0) && (decide (n = 0) && eok o a b)
  else if c = 5 then decide (v = 0) && (decide (1 ≤ n ∧ n ≤ 5) && zok o a b)
  else if c = 6 then decide (v = 0) && (decide (n = 0) && zok o a b)
  else false
theorem hasVar_eq (c : Int) : impl_hasVar.f c = some (decide (c = 1 ∨ c = 2)) := by
  unfold impl_hasVar.f
  by_cases h : c = 1
  · rw [if_pos h]; simp [h]
  · rw [if_neg h]; simp [h]; rfl
theorem hasExpr_eq (c : Int) : impl_hasExpr.f c = some (decide (c = 1 ∨ c = 3 ∨ c = 4)) := by
  unfold impl_hasExpr.f
  by_cases h : c = 1
  · rw [if_pos h]; simp [h]
  · rw [if_neg h]
    by_cases h2 : c = 3
    · rw [if_pos h2]; simp [h2]
    · rw [if_neg h2]; simp [h, h2]; rfl
theorem isVar_eq (v : Int) : impl_isVar.f v = some (decide (0 ≤ v ∧ v ≤ 7)) := by
  unfold impl_isVar.f; rw [within_eq]; rfl
theorem isSensor_eq (v : Int) : impl_isSensor.f v = some (decide (0 ≤ v ∧ v ≤ 3)) := by
  unfold impl_isSensor.f; rw [within_eq]; rfl
theorem istmt (c v n o a b : Int) (k : Nat) (hk : 2 ≤ k) : impl_StmtOk.f k c v n o a b = some (sok c v n o a b) := by
  obtain ⟨k, rfl⟩ : ∃ m, k = m + 2 := ⟨k - 2, by omega⟩
  unfold impl_StmtOk.f sok zok
  simp only [within_eq, hasVar_eq, isVar_eq, hasExpr_eq, isSensor_eq, iexpr, Option.bind_some, impl_StmtOk.j0, impl_StmtOk.j1]
  by_cases h1 : c = 1
  · subst h1
    cases decide (0 ≤ v ∧ v ≤ 7) <;> cases eok o a b <;> by_cases hn : n = 0 <;> simp [hn]
  · by_cases h2 : c = 2
    · subst h2
      cases decide (0 ≤ v ∧ v ≤ 7) <;> cases decide (0 ≤ n ∧ n ≤ 3) <;> by_cases ho : o = 0 <;> by_cases ha : a = 0 <;> by_cases hb : b = 0 <;> simp [ho, ha, hb]
    · by_cases h3 : c = 3
      · subst h3
        cases eok o a b <;> by_cases hn : n = 0 <;> by_cases hv : v = 0 <;> simp [hn, hv]
      · by_cases h4 : c = 4
        · subst h4
          cases eok o a b <;> by_cases hn : n = 0 <;> by_cases hv : v = 0 <;> simp [hn, hv]
        · by_cases h5 : c = 5
          · subst h5
            cases decide (1 ≤ n ∧ n ≤ 5) <;> by_cases hv : v = 0 <;> by_cases ho : o = 0 <;> by_cases ha : a = 0 <;> by_cases hb : b = 0 <;> simp [hv, ho, ha, hb]
          · by_cases h6 : c = 6
            · subst h6
              by_cases hn : n = 0 <;> by_cases hv : v = 0 <;> by_cases ho : o = 0 <;> by_cases ha : a = 0 <;> by_cases hb : b = 0 <;> simp [hn, hv, ho, ha, hb]
            · have hw : ¬ (1 ≤ c ∧ c ≤ 6) := by omega
              simp [h1, h2, h3, h4, h5, h6, hw]
theorem sstmt (c v n o a b : Int) (k : Nat) (hk : 2 ≤ k) : spec_StmtOk.f k c v n o a b = some (sok c v n o a b) := by
  obtain ⟨k, rfl⟩ : ∃ m, k = m + 2 := ⟨k - 2, by omega⟩
  unfold spec_StmtOk.f spec_l04Plain.f sok zok
  simp only [in_eq, sexpr, Option.bind_some, spec_StmtOk.j0]
  by_cases h1 : c = 1
  · subst h1
    cases decide (0 ≤ v ∧ v ≤ 7) <;> cases eok o a b <;> by_cases hn : n = 0 <;> simp [hn]
  · by_cases h2 : c = 2
    · subst h2
      cases decide (0 ≤ v ∧ v ≤ 7) <;> cases decide (0 ≤ n ∧ n ≤ 3) <;> by_cases ho : o = 0 <;> by_cases ha : a = 0 <;> by_cases hb : b = 0 <;> simp [ho, ha, hb]
    · by_cases h3 : c = 3
      · subst h3
        cases eok o a b <;> by_cases hn : n = 0 <;> by_cases hv : v = 0 <;> simp [hn, hv]
      · by_cases h4 : c = 4
        · subst h4
          cases eok o a b <;> by_cases hn : n = 0 <;> by_cases hv : v = 0 <;> simp [hn, hv]
        · by_cases h5 : c = 5
          · subst h5
            cases decide (1 ≤ n ∧ n ≤ 5) <;> by_cases hv : v = 0 <;> by_cases ho : o = 0 <;> by_cases ha : a = 0 <;> by_cases hb : b = 0 <;> simp [hv, ho, ha, hb]
          · by_cases h6 : c = 6
            · subst h6
              by_cases hn : n = 0 <;> by_cases hv : v = 0 <;> by_cases ho : o = 0 <;> by_cases ha : a = 0 <;> by_cases hb : b = 0 <;> simp [hn, hv, ho, ha, hb]
            · by_cases hn : n = 0 <;> by_cases hv : v = 0 <;> by_cases ho : o = 0 <;> by_cases ha : a = 0 <;> by_cases hb : b = 0 <;> simp [h1, h2, h3, h4, h5, h6, hn, hv, ho, ha, hb]
theorem rd_app (pre : List S31) (a : S31) (t : List S31) : rd_T31 (pre ++ a :: t) (pre.length : Int) = a := by
  unfold rd_T31
  simp [List.getD]
def okS (s : S31) : Bool := sok s.f0 s.f1 s.f2 s.f3.f0 s.f3.f1 s.f3.f2
def opn (s : S31) : Bool := decide (s.f0 = 4 ∨ s.f0 = 5)
def del (s : S31) : Int := if s.f0 = 4 ∨ s.f0 = 5 then 1 else if s.f0 = 6 then -1 else 0
theorem del_in (s : S31) : -1 ≤ del s ∧ del s ≤ 1 := by unfold del; split <;> (try split) <;> omega
def scan : List S31 → Int → Option Int
  | [], d => some d
  | s :: t, d => if okS s = true then (if 0 ≤ d + del s ∧ d + del s ≤ 3 then scan t (d + del s) else none) else none
def fin (o : Option Int) (n : Nat) : Bool := decide (o = some 0) && decide (n ≤ 24)
/-- Whether the statements are a valid block. -/
def blk (l : List S31) : Bool := fin (scan l 0) l.length
theorem opening_eq (c : Int) : impl_isOpening.f c = some (decide (c = 4 ∨ c = 5)) := by
  unfold impl_isOpening.f
  by_cases h : c = 4
  · simp [h]
  · rw [if_neg h]; congr 1; rw [Bool.eq_iff_iff]; simp [h]
theorem iscan (suf : List S31) : ∀ (k : Nat) (pre x : List S31) (d : Int), x = pre ++ suf → x.length ≤ 140737488351232 → 2 * suf.length + 4 ≤ k → 0 ≤ d → d ≤ 3 →
    impl_BlockOk.l0 k x d x (x.length : Int) (pre.length : Int) = some (fin (scan suf d) x.length) := by
  induction suf with
  | nil =>
    intro k pre x d hx hz hk d0 d1
    obtain ⟨k, rfl⟩ : ∃ m, k = m + 1 := ⟨k - 1, by omega⟩
    have hl : x.length = pre.length := by simp [hx]
    unfold impl_BlockOk.l0
    rw [if_neg (by omega)]
    unfold scan fin
    by_cases c : d = 0
    · rw [if_pos c, c]; congr 1; simp; omega
    · rw [if_neg c]; simp [c]
  | cons a t ih =>
    intro k pre x d hx hz hk d0 d1
    simp only [List.length_cons] at hk
    obtain ⟨k, rfl⟩ : ∃ m, k = m + 2 := ⟨k - 2, by omega⟩
    have hl : x.length = pre.length + (t.length + 1) := by simp [hx]
    have hr : rd_T31 x (pre.length : Int) = a := by rw [hx]; exact rd_app pre a t
    have hn : ((pre.length : Int) + 1) = (((pre ++ [a]).length : Nat) : Int) := by simp
    unfold impl_BlockOk.l0
    rw [if_pos (by omega), if_pos (by omega), if_pos (by omega)]
    simp only [hr]
    rw [istmt _ _ _ _ _ _ _ (by omega)]
    simp only [Option.bind_some]
    have hs : ∀ e, scan (a :: t) e = if okS a = true then (if 0 ≤ e + del a ∧ e + del a ≤ 3 then scan t (e + del a) else none) else none := fun e => rfl
    rw [hs]
    by_cases ok : okS a = true
    · rw [if_pos ok]
      unfold okS at ok
      rw [if_pos ok, opening_eq]
      simp only [Option.bind_some, decide_eq_true_eq]
      have step : ∀ e : Int, 0 ≤ e → e ≤ 3 → impl_BlockOk.l0 k x e x (x.length : Int) (wrap64 ((pre.length : Int) + 1)) = some (fin (scan t e) x.length) := by
        intro e e0 e1
        rw [w64 (by omega) (by omega), hn]
        exact ih k (pre ++ [a]) x e (by simp [hx]) hz (by omega) e0 e1
      by_cases o : a.f0 = 4 ∨ a.f0 = 5
      · have hd : del a = 1 := by unfold del; rw [if_pos o]
        rw [if_pos o, hd, w64 (n := d + 1) (by omega) (by omega)]
        unfold impl_BlockOk.j1
        rw [if_neg (by omega), if_neg (by omega)]
        by_cases c : d + 1 > 3
        · rw [if_pos c, if_neg (by omega)]; simp [fin]
        · rw [if_neg c, if_pos (by omega)]
          exact step _ (by omega) (by omega)
      · rw [if_neg o]
        unfold impl_BlockOk.j1
        by_cases c6 : a.f0 = 6
        · have hd : del a = -1 := by unfold del; rw [if_neg o, if_pos c6]
          rw [if_pos c6, hd, w64 (n := d - 1) (by omega) (by omega)]
          by_cases c : d - 1 < 0
          · rw [if_pos c, if_neg (by omega)]; simp [fin]
          · rw [if_neg c, if_neg (by omega), if_pos (by omega)]
            exact step _ (by omega) (by omega)
        · have hd : del a = 0 := by unfold del; rw [if_neg o, if_neg c6]
          rw [if_neg c6, hd, if_neg (by omega), if_neg (by omega), if_pos (by omega), show d + 0 = d by omega]
          exact step _ (by omega) (by omega)
    · rw [if_neg ok]
      unfold okS at ok
      rw [if_neg ok]
      simp [fin]
theorem iblock (l : List S31) (hz : l.length ≤ 140737488351232) (k : Nat) (hk : 2 * l.length + 4 ≤ k) : impl_BlockOk.f k l = some (blk l) :=
  iscan l k [] l 0 rfl hz hk (by omega) (by omega)
theorem sscan (suf : List S31) : ∀ (k : Nat) (pre x : List S31) (d : Int), x = pre ++ suf → x.length ≤ 140737488351232 → 2 * suf.length + 4 ≤ k → 0 ≤ d → d ≤ 3 →
    spec_BlockOk.l0 k x d (pre.length : Int) = some (fin (scan suf d) x.length) := by
  induction suf with
  | nil =>
    intro k pre x d hx hz hk d0 d1
    obtain ⟨k, rfl⟩ : ∃ m, k = m + 1 := ⟨k - 1, by omega⟩
    have hl : x.length = pre.length := by simp [hx]
    unfold spec_BlockOk.l0
    rw [if_neg (by omega)]
    unfold scan fin
    by_cases c : d = 0
    · rw [if_pos c, c]; congr 1; simp; omega
    · rw [if_neg c]; simp [c]
  | cons a t ih =>
    intro k pre x d hx hz hk d0 d1
    simp only [List.length_cons] at hk
    obtain ⟨k, rfl⟩ : ∃ m, k = m + 2 := ⟨k - 2, by omega⟩
    have hl : x.length = pre.length + (t.length + 1) := by simp [hx]
    have hr : rd_T31 x (pre.length : Int) = a := by rw [hx]; exact rd_app pre a t
    have hn : ((pre.length : Int) + 1) = (((pre ++ [a]).length : Nat) : Int) := by simp
    unfold spec_BlockOk.l0
    rw [if_pos (by omega), if_pos (by omega)]
    simp only [hr]
    rw [sstmt _ _ _ _ _ _ _ (by omega)]
    simp only [Option.bind_some]
    have hs : ∀ e, scan (a :: t) e = if okS a = true then (if 0 ≤ e + del a ∧ e + del a ≤ 3 then scan t (e + del a) else none) else none := fun e => rfl
    rw [hs]
    by_cases ok : okS a = true
    · rw [if_pos ok]
      unfold okS at ok
      rw [if_pos ok]
      have step : ∀ e : Int, 0 ≤ e → e ≤ 3 → spec_BlockOk.l0 k x e (wrap64 ((pre.length : Int) + 1)) = some (fin (scan t e) x.length) := by
        intro e e0 e1
        rw [w64 (by omega) (by omega), hn]
        exact ih k (pre ++ [a]) x e (by simp [hx]) hz (by omega) e0 e1
      have hj : ∀ b : Bool, b = decide (a.f0 = 4 ∨ a.f0 = 5) → spec_BlockOk.j1 (k + 1) x d (pre.length : Int) a.f0 b = some (fin (if 0 ≤ d + del a ∧ d + del a ≤ 3 then scan t (d + del a) else none) x.length) := by
        intro b hb
        unfold spec_BlockOk.j1
        by_cases o : a.f0 = 4 ∨ a.f0 = 5
        · have hd : del a = 1 := by unfold del; rw [if_pos o]
          rw [if_pos (by rw [hb]; exact decide_eq_true o), hd, w64 (n := d + 1) (by omega) (by omega), in_eq]
          simp only [Option.bind_some, decide_eq_true_eq]
          by_cases c : 0 ≤ d + 1 ∧ d + 1 ≤ 3
          · rw [if_pos c, if_pos c]; exact step _ c.1 c.2
          · rw [if_neg c, if_neg c]; simp [fin]
        · rw [if_neg (by rw [hb]; simp; omega)]
          by_cases c6 : a.f0 = 6
          · have hd : del a = -1 := by unfold del; rw [if_neg o, if_pos c6]
            rw [if_pos c6, hd, w64 (n := d - 1) (by omega) (by omega), in_eq, show d + -1 = d - 1 by omega]
            simp only [Option.bind_some, decide_eq_true_eq]
            by_cases c : 0 ≤ d - 1 ∧ d - 1 ≤ 3
            · rw [if_pos c, if_pos c]; exact step _ c.1 c.2
            · rw [if_neg c, if_neg c]; simp [fin]
          · have hd : del a = 0 := by unfold del; rw [if_neg o, if_neg c6]
            rw [if_neg c6, hd, in_eq, show d + 0 = d by omega]
            simp only [Option.bind_some, decide_eq_true_eq]
            rw [if_pos ⟨d0, d1⟩, if_pos ⟨d0, d1⟩]; exact step _ d0 d1
      by_cases c4 : a.f0 = 4
      · rw [if_pos c4]
        exact hj _ (by simp [c4])
      · rw [if_neg c4]
        exact hj _ (by rw [Bool.eq_iff_iff]; simp [c4])
    · rw [if_neg ok]
      unfold okS at ok
      rw [if_neg ok]
      simp [fin]
theorem sblock (l : List S31) (hz : l.length ≤ 140737488351232) (k : Nat) (hk : 2 * l.length + 4 ≤ k) : spec_BlockOk.f k l = some (blk l) :=
  sscan l k [] l 0 rfl hz hk (by omega) (by omega)
theorem operand_in {l : List Int} {i : Int} (h : Int) (ok : OkC l i) : ∃ x i' h', spec_l03Operand.f l i h = some (x, i', h') ∧ OkC l i' ∧ -8 ≤ x ∧ x ≤ 999 := by
  unfold spec_l03Operand.f
  obtain ⟨b, i1, g1, e1, ok1⟩ := once_tells h 2 ok (by omega)
  rw [e1]
  simp only [Option.bind_some]
  by_cases c : b = true
  · rw [if_pos c]
    obtain ⟨x, i2, g2, e2, ok2, x0, x1⟩ := below_tells g1 5 ok1 (by omega)
    rw [e2]
    simp only [Option.bind_some]
    rw [w64 (by omega) (by omega)]
    exact ⟨_, _, _, rfl, ok2, by omega, by omega⟩
  · rw [if_neg c]
    obtain ⟨x, i2, g2, e2, ok2, hx⟩ := pick_tells g1 [0, 1, 2, 3, 10, 999] ok1 (by decide)
    rw [e2]
    simp only [Option.bind_some]
    refine ⟨_, _, _, rfl, ok2, ?_⟩
    simp only [List.mem_cons, List.not_mem_nil, or_false] at hx
    omega
theorem expr_in {l : List Int} {i : Int} (h : Int) (ok : OkC l i) : ∃ o a b i' h', spec_l03Expr.f l i h = some (o, a, b, i', h') ∧ OkC l i' ∧ eok o a b = true := by
  unfold spec_l03Expr.f
  obtain ⟨x, i1, g1, e1, ok1, x0, x1⟩ := below_tells h 7 ok (by omega)
  obtain ⟨a, i2, g2, e2, ok2, a0, a1⟩ := operand_in g1 ok1
  obtain ⟨b, i3, g3, e3, ok3, b0, b1⟩ := operand_in g2 ok2
  rw [e1]
  simp only [Option.bind_some]
  rw [e2]
  simp only [Option.bind_some]
  rw [e3]
  simp only [Option.bind_some]
  rw [w64 (by omega) (by omega)]
  refine ⟨_, _, _, _, _, rfl, ok3, ?_⟩
  unfold eok
  simp
  omega
/-- A valid statement that neither opens nor closes. -/
def plain (c v n o a b : Int) : Prop := sok c v n o a b = true ∧ c ≠ 4 ∧ c ≠ 5 ∧ c ≠ 6
theorem stmt_in {l : List Int} {i : Int} (h : Int) (ok : OkC l i) (k : Nat) (hk : 1 ≤ k) : ∃ c v n o a b i' h', spec_l04Stmt.f k l i h = some (c, v, n, o, a, b, i', h') ∧ OkC l i' ∧ plain c v n o a b := by
  obtain ⟨k, rfl⟩ : ∃ m, k = m + 1 := ⟨k - 1, by omega⟩
  have hj : ∀ (x : Int) (f : Bool) (i1 g1 : Int), OkC l i1 → ∃ c v n o a b i' h', spec_l04Stmt.j0 (k + 1) x f l i1 g1 = some (c, v, n, o, a, b, i', h') ∧ OkC l i' ∧ plain c v n o a b := by
    intro x f i1 g1 ok1
    simp only [spec_l04Stmt.j0]
    by_cases cf : f = true
    · rw [if_pos cf]
      obtain ⟨v, i2, g2, e2, ok2, v0, v1⟩ := below_tells g1 5 ok1 (by omega)
      obtain ⟨n, i3, g3, e3, ok3, n0, n1⟩ := below_tells g2 4 ok2 (by omega)
      rw [e2]
      simp only [Option.bind_some]
      rw [e3]
      simp only [Option.bind_some]
      refine ⟨_, _, _, _, _, _, _, _, rfl, ok3, ?_, by omega, by omega, by omega⟩
      unfold sok zok
      simp
      omega
    · rw [if_neg cf]
      by_cases c2 : x = 2
      · rw [if_pos c2]
        obtain ⟨o, a, b, i2, g2, e2, ok2, he⟩ := expr_in g1 ok1
        rw [e2]
        simp only [Option.bind_some]
        refine ⟨_, _, _, _, _, _, _, _, rfl, ok2, ?_, by omega, by omega, by omega⟩
        unfold sok
        simp [he]
      · rw [if_neg c2]
        obtain ⟨v, i2, g2, e2, ok2, v0, v1⟩ := below_tells g1 5 ok1 (by omega)
        obtain ⟨o, a, b, i3, g3, e3, ok3, he⟩ := expr_in g2 ok2
        rw [e2]
        simp only [Option.bind_some]
        rw [e3]
        simp only [Option.bind_some]
        refine ⟨_, _, _, _, _, _, _, _, rfl, ok3, ?_, by omega, by omega, by omega⟩
        unfold sok
        simp [he]
        omega
  unfold spec_l04Stmt.f
  obtain ⟨x, i1, g1, e1, ok1, x0, x1⟩ := below_tells h 7 ok (by omega)
  rw [e1]
  simp only [Option.bind_some]
  by_cases c : x = 0
  · rw [if_pos c]; exact hj _ _ _ _ ok1
  · rw [if_neg c]; exact hj _ _ _ _ ok1
/-- Statements that may lie in any block, m levels of opening high. -/
def Good (b : List S31) (m : Int) : Prop := ∀ (r : List S31) (d : Int), 0 ≤ d → d + m ≤ 3 → scan (b ++ r) d = scan r d
theorem good_nil (m : Int) : Good [] m := fun r d _ _ => rfl
theorem good_app {b c : List S31} {m : Int} (hb : Good b m) (hc : Good c m) : Good (b ++ c) m := by
  intro r d h0 h1
  rw [List.append_assoc, hb _ d h0 h1, hc r d h0 h1]
theorem scan_cons (s : S31) (t : List S31) (d : Int) : scan (s :: t) d = if okS s = true then (if 0 ≤ d + del s ∧ d + del s ≤ 3 then scan t (d + del s) else none) else none := rfl
theorem good_plain {c v n o a b : Int} (h : plain c v n o a b) {m : Int} (hm : 0 ≤ m) : Good [(⟨c, v, n, ⟨o, a, b⟩⟩ : S31)] m := by
  intro r d h0 h1
  obtain ⟨h2, h3, h4, h5⟩ := h
  have hd : del (⟨c, v, n, ⟨o, a, b⟩⟩ : S31) = 0 := by unfold del; simp [h3, h4, h5]
  have ho : okS (⟨c, v, n, ⟨o, a, b⟩⟩ : S31) = true := h2
  show scan ((⟨c, v, n, ⟨o, a, b⟩⟩ : S31) :: r) d = scan r d
  rw [scan_cons, if_pos ho, hd, if_pos (by omega), show d + 0 = d by omega]
theorem good_wrap {c v n o a b : Int} (h : sok c v n o a b = true) (h4 : c = 4 ∨ c = 5) {q : List S31} {m : Int} (hm : 0 ≤ m) (hq : Good q m) : Good ((⟨c, v, n, ⟨o, a, b⟩⟩ : S31) :: (q ++ [(⟨6, 0, 0, ⟨0, 0, 0⟩⟩ : S31)])) (m + 1) := by
  intro r d h0 h1
  have hd : del (⟨c, v, n, ⟨o, a, b⟩⟩ : S31) = 1 := by unfold del; rw [if_pos h4]
  have ho : okS (⟨c, v, n, ⟨o, a, b⟩⟩ : S31) = true := h
  have hd2 : del (⟨6, 0, 0, ⟨0, 0, 0⟩⟩ : S31) = -1 := by decide
  have ho2 : okS (⟨6, 0, 0, ⟨0, 0, 0⟩⟩ : S31) = true := by decide
  show scan ((⟨c, v, n, ⟨o, a, b⟩⟩ : S31) :: ((q ++ [(⟨6, 0, 0, ⟨0, 0, 0⟩⟩ : S31)]) ++ r)) d = scan r d
  rw [scan_cons, if_pos ho, hd, if_pos (by omega), List.append_assoc, hq _ _ (by omega) (by omega)]
  show scan ((⟨6, 0, 0, ⟨0, 0, 0⟩⟩ : S31) :: r) (d + 1) = scan r d
  rw [scan_cons, if_pos ho2, hd2, if_pos (by omega), show d + 1 + -1 = d by omega]
/-- How long a block may be behind i draws, h levels below the innermost. -/
def cap (h : Nat) (i : Int) : Int := if h = 0 then i else if h = 1 then 4 * i else 15 + i
theorem block_in {l : List Int} (h : Nat) : h ≤ 2 → ∀ (k : Nat) (i g n : Int), OkC l i → 0 ≤ n → n ≤ (if h = 2 then 5 else 2) → 2 * n + 6 + 5 * h ≤ k → ∃ b i' g', spec_l05Block.f k l i g n (2 - (h : Int)) = some (b, i', g') ∧ OkC l i' ∧ Good b h ∧ (b.length : Int) ≤ cap h n := by
  induction h with
  | zero =>
    intro _ k i g n ok n0 n1 hk
    simp only [Nat.zero_ne_add_one, if_false] at n1
    have hl : ∀ (d : Nat) (k : Nat) (x : List S31) (j i g : Int), OkC l i → 0 ≤ j → n - j = d → 2 * (d : Int) + 5 ≤ k → Good x ((0 : Nat) : Int) → (x.length : Int) ≤ j → ∃ b i' g', spec_l05Block.l0 k n (2 - ((0 : Nat) : Int)) x j l i g = some (b, i', g') ∧ OkC l i' ∧ Good b ((0 : Nat) : Int) ∧ (b.length : Int) ≤ n := by
      intro d
      induction d with
      | zero =>
        intro k x j i g ok j0 hd hk hg hx
        obtain ⟨k, rfl⟩ : ∃ m, k = m + 1 := ⟨k - 1, by omega⟩
        simp only [spec_l05Block.l0]
        rw [if_neg (by omega)]
        exact ⟨_, _, _, rfl, ok, hg, by omega⟩
      | succ d ih =>
        intro k x j i g ok j0 hd hk hg hx
        obtain ⟨k, rfl⟩ : ∃ m, k = m + 2 := ⟨k - 2, by omega⟩
        obtain ⟨c, v, q, o, a, b, i1, g1, e1, ok1, hp⟩ := stmt_in g ok k (by omega)
        simp only [spec_l05Block.l0]
        rw [if_pos (by omega), if_neg (by omega)]
        simp only [spec_l05Block.j1, Bool.false_eq_true, if_false]
        rw [e1]
        simp only [Option.bind_some]
        rw [if_pos (by omega), w64 (n := j + 1) (by omega) (by omega)]
        exact ih k _ (j + 1) i1 g1 ok1 (by omega) (by omega) (by omega) (good_app hg (good_plain hp (by omega))) (by simp; omega)
    obtain ⟨k, rfl⟩ : ∃ m, k = m + 1 := ⟨k - 1, by omega⟩
    unfold spec_l05Block.f
    obtain ⟨b, i', g', e, ok', hg, hb⟩ := hl n.toNat k [] 0 i g ok (by omega) (by omega) (by omega) (good_nil _) (by simp)
    exact ⟨b, i', g', e, ok', hg, by unfold cap; rw [if_pos rfl]; exact hb⟩
  | succ h ihh =>
    intro hh k i g n ok n0 n1 hk
    have n5 : n ≤ 5 := by revert n1; split <;> omega
    have hl : ∀ (d : Nat) (k : Nat) (x : List S31) (j i g : Int), OkC l i → 0 ≤ j → n - j = d → 2 * (d : Int) + 5 + 5 * ((h : Int) + 1) ≤ k → Good x ((h + 1 : Nat) : Int) → (x.length : Int) ≤ cap (h + 1) j → ∃ b i' g', spec_l05Block.l0 k n (2 - ((h + 1 : Nat) : Int)) x j l i g = some (b, i', g') ∧ OkC l i' ∧ Good b ((h + 1 : Nat) : Int) ∧ (b.length : Int) ≤ cap (h + 1) n := by
      intro d
      induction d with
      | zero =>
        intro k x j i g ok j0 hd hk hg hx
        obtain ⟨k, rfl⟩ : ∃ m, k = m + 1 := ⟨k - 1, by omega⟩
        have e : j = n := by omega
        subst e
        simp only [spec_l05Block.l0]
        rw [if_neg (by omega)]
        exact ⟨_, _, _, rfl, ok, hg, hx⟩
      | succ d ih =>
        intro k x j i g ok j0 hd hk hg hx
        obtain ⟨k, rfl⟩ : ∃ m, k = m + 2 := ⟨k - 2, by omega⟩
        have xb : (x.length : Int) ≤ 100 := by revert hx; unfold cap; split <;> (try split) <;> omega
        have hplain : ∀ i g, OkC l i → ∃ b i' g', spec_l05Block.j1 (k + 1) n (2 - ((h + 1 : Nat) : Int)) x j false l i g = some (b, i', g') ∧ OkC l i' ∧ Good b ((h + 1 : Nat) : Int) ∧ (b.length : Int) ≤ cap (h + 1) n := by
          intro i g ok
          obtain ⟨c, v, q, o, a, b, i1, g1, e1, ok1, hp⟩ := stmt_in g ok k (by omega)
          simp only [spec_l05Block.j1, Bool.false_eq_true, if_false]
          rw [e1]
          simp only [Option.bind_some]
          rw [if_pos (by omega), w64 (n := j + 1) (by omega) (by omega)]
          refine ih k _ (j + 1) i1 g1 ok1 (by omega) (by omega) (by omega) (good_app hg (good_plain hp (by omega))) ?_
          revert hx
          unfold cap
          simp only [List.length_append, List.length_cons, List.length_nil]
          split <;> (try split) <;> omega
        simp only [spec_l05Block.l0]
        rw [if_pos (by omega), if_pos (by omega)]
        by_cases c6 : (x.length : Int) < 6
        · rw [if_pos c6]
          obtain ⟨f, i1, g1, e1, ok1⟩ := once_tells g 5 ok (by omega)
          rw [e1]
          simp only [Option.bind_some]
          by_cases cf : f = true
          · subst cf
            obtain ⟨t, i2, g2, e2, ok2, t0, t1⟩ := below_tells g1 3 ok1 (by omega)
            obtain ⟨f2, i3, g3, e3, ok3⟩ := once_tells g2 2 ok2 (by omega)
            -- the end of either way
            have tail : ∀ (s : S31) (i g : Int), OkC l i → (s.f0 = 4 ∨ s.f0 = 5) → okS s = true → ∀ m, 0 ≤ m → m < 2 → ∃ b2 i2 g2, spec_l05Block.f k l i g (wrap64 (1 + m)) (wrap64 (2 - ((h + 1 : Nat) : Int) + 1)) = some (b2, i2, g2) ∧ (b2.length : Int) ≤ 8 ∧
                (∃ b i' g', spec_l05Block.l0 k n (2 - ((h + 1 : Nat) : Int)) (((x ++ [s]) ++ b2) ++ [(⟨6, 0, 0, (⟨0, 0, 0⟩ : S29)⟩ : S31)]) (wrap64 (j + 1)) l i2 g2 = some (b, i', g') ∧ OkC l i' ∧ Good b ((h + 1 : Nat) : Int) ∧ (b.length : Int) ≤ cap (h + 1) n) := by
              intro s i g ok hs hs2 m m0 m1
              rw [w64 (n := 1 + m) (by omega) (by omega), w64 (n := 2 - ((h + 1 : Nat) : Int) + 1) (by omega) (by omega), w64 (n := j + 1) (by omega) (by omega), show 2 - ((h + 1 : Nat) : Int) + 1 = 2 - (h : Int) by omega]
              obtain ⟨b2, i2, g2, e, ok2, hg2, hb2⟩ := ihh (by omega) k i g (1 + m) ok (by omega) (by split <;> omega) (by omega)
              have hb8 : (b2.length : Int) ≤ (if h = 0 then 2 else 8) := by revert hb2; unfold cap; split <;> (try split) <;> omega
              refine ⟨b2, i2, g2, e, by revert hb8; split <;> omega, ?_⟩
              refine ih k _ (j + 1) i2 g2 ok2 (by omega) (by omega) (by omega) ?_ ?_
              · have hw := good_wrap (q := b2) (m := (h : Int)) (c := s.f0) (v := s.f1) (n := s.f2) (o := s.f3.f0) (a := s.f3.f1) (b := s.f3.f2) hs2 hs (by omega) hg2
                have := good_app hg (m := ((h + 1 : Nat) : Int)) hw
                simpa [List.append_assoc] using this
              · revert hx
                unfold cap
                simp only [List.length_append, List.length_cons, List.length_nil]
                revert hb8
                split
                · split <;> (try split) <;> omega
                · split <;> (try split) <;> omega
            simp only [spec_l05Block.j1, if_true]
            rw [e2]
            simp only [Option.bind_some]
            rw [e3]
            simp only [Option.bind_some]
            by_cases c2 : f2 = true
            · rw [if_pos c2]
              obtain ⟨o, a, b, i4, g4, e4, ok4, he⟩ := expr_in g3 ok3
              obtain ⟨m, i5, g5, e5, ok5, m0, m1⟩ := below_tells g4 2 ok4 (by omega)
              obtain ⟨b2, i6, g6, e6, hb8, b, i7, g7, e7, h7⟩ := tail (⟨4, 0, 0, ⟨o, a, b⟩⟩ : S31) i5 g5 ok5 (Or.inl rfl) (by unfold okS sok; simp [he]) m m0 m1
              rw [e4]
              simp only [Option.bind_some]
              rw [if_pos (by omega), e5]
              simp only [Option.bind_some]
              rw [e6]
              simp only [Option.bind_some]
              rw [if_pos (by simp; omega), if_pos (by simp; omega)]
              exact ⟨_, _, _, e7, h7⟩
            · rw [if_neg c2]
              obtain ⟨m, i5, g5, e5, ok5, m0, m1⟩ := below_tells g3 2 ok3 (by omega)
              obtain ⟨b2, i6, g6, e6, hb8, b, i7, g7, e7, h7⟩ := tail (⟨5, 0, wrap64 (1 + t), ⟨0, 0, 0⟩⟩ : S31) i5 g5 ok5 (Or.inr rfl) (by rw [w64 (by omega) (by omega)]; unfold okS sok zok; simp; omega) m m0 m1
              rw [if_pos (by omega), e5]
              simp only [Option.bind_some]
              rw [e6]
              simp only [Option.bind_some]
              rw [if_pos (by simp; omega), if_pos (by simp; omega)]
              exact ⟨_, _, _, e7, h7⟩
          · have : f = false := by simpa using cf
            subst this
            exact hplain i1 g1 ok1
        · rw [if_neg c6]
          exact hplain i g ok
    obtain ⟨k, rfl⟩ : ∃ m, k = m + 1 := ⟨k - 1, by omega⟩
    unfold spec_l05Block.f
    exact hl n.toNat k [] 0 i g ok (by omega) (by omega) (by push_cast at hk; omega) (good_nil _) (by unfold cap; simp; split <;> omega)
theorem good_blk {b : List S31} (h : Good b 2) (hl : (b.length : Int) ≤ 24) : blk b = true := by
  unfold blk fin
  have := h [] 0 (by omega) (by omega)
  rw [List.append_nil] at this
  rw [this]
  simp [scan]
  omega
theorem case_in {l : List Int} {i : Int} (g : Int) (ok : OkC l i) (k : Nat) (hk : 30 ≤ k) : ∃ b i' g', spec_l05Case.f k l i g = some (b, i', g') ∧ OkC l i' ∧ blk b = true := by
  unfold spec_l05Case.f
  obtain ⟨n, i1, g1, e1, ok1, n0, n1⟩ := below_tells g 6 ok (by omega)
  obtain ⟨b, i2, g2, e2, ok2, hg, hb⟩ := block_in 2 (by omega) k i1 g1 n ok1 n0 (by rw [if_pos rfl]; omega) (by omega)
  rw [e1]
  simp only [Option.bind_some]
  have e3 : spec_l05Block.f k l i1 g1 n 0 = some (b, i2, g2) := e2
  rw [e3]
  exact ⟨_, _, _, rfl, ok2, good_blk hg (by revert hb; unfold cap; simp; omega)⟩
theorem rd_app62 (pre : List S62) (a : S62) (t : List S62) : rd_T62 (pre ++ a :: t) (pre.length : Int) = a := by
  unfold rd_T62
  simp [List.getD]
/-- A valid task. -/
def tok (s : S62) : Bool := blk s.f0 && eok s.f1.f0 s.f1.f1 s.f1.f2
/-- A valid program. -/
def pok (l : List S62) : Bool := decide (1 ≤ (l.length : Int) ∧ (l.length : Int) ≤ 6) && l.all tok
/-- Bodies that aren't longer than all that is asked. -/
def Small (l : List S62) : Prop := l.length ≤ 1048576 ∧ ∀ s ∈ l, s.f0.length ≤ 1048576
theorem itask (s : S62) (hz : s.f0.length ≤ 1048576) (k : Nat) (hk : 2097160 ≤ k) : impl_taskOk.f k s.f0 s.f1.f0 s.f1.f1 s.f1.f2 = some (tok s) := by
  unfold impl_taskOk.f tok
  rw [iblock s.f0 (by omega) k (by omega), iexpr]
  simp only [Option.bind_some]
  cases blk s.f0 <;> simp
theorem iprog_loop (suf : List S62) : ∀ (k : Nat) (pre x : List S62), x = pre ++ suf → Small x → suf.length + 2097162 ≤ k →
    impl_ProgramOk.l0 k x (pre.length : Int) = some (suf.all tok) := by
  induction suf with
  | nil =>
    intro k pre x hx hz hk
    obtain ⟨k, rfl⟩ : ∃ m, k = m + 1 := ⟨k - 1, by omega⟩
    have hl : x.length = pre.length := by simp [hx]
    simp only [impl_ProgramOk.l0]
    rw [if_neg (by omega)]
    rfl
  | cons a t ih =>
    intro k pre x hx hz hk
    simp only [List.length_cons] at hk
    obtain ⟨k, rfl⟩ : ∃ m, k = m + 1 := ⟨k - 1, by omega⟩
    have hl : x.length = pre.length + (t.length + 1) := by simp [hx]
    have hr : rd_T62 x (pre.length : Int) = a := by rw [hx]; exact rd_app62 pre a t
    have hn : ((pre.length : Int) + 1) = (((pre ++ [a]).length : Nat) : Int) := by simp
    simp only [impl_ProgramOk.l0]
    rw [if_pos (by omega), if_pos (by omega), hr, itask a (hz.2 a (by simp [hx])) k (by omega)]
    simp only [Option.bind_some, List.all_cons]
    by_cases c : tok a = true
    · rw [if_pos c, c, hn, ih k (pre ++ [a]) x (by simp [hx]) hz (by omega)]
      rfl
    · rw [if_neg c, Bool.eq_false_iff.mpr c]
      rfl
theorem iprog (x : List S62) (hz : Small x) (k : Nat) (hk : x.length + 2097162 ≤ k) : impl_ProgramOk.f k x = some (pok x) := by
  unfold impl_ProgramOk.f pok
  rw [within_eq]
  simp only [Option.bind_some]
  by_cases c : 1 ≤ (x.length : Int) ∧ (x.length : Int) ≤ 6
  · rw [decide_eq_true c, if_pos rfl]
    have := iprog_loop x k [] x rfl hz hk
    simp only [List.length_nil] at this
    rw [show ((0 : Nat) : Int) = 0 from rfl] at this
    rw [this, Bool.true_and]
  · rw [decide_eq_false c, if_neg (by simp), Bool.false_and]
theorem sprog_loop (suf : List S62) : ∀ (k : Nat) (pre x : List S62), x = pre ++ suf → Small x → suf.length + 2097162 ≤ k →
    spec_ProgramOk.l0 k (pre.length : Int) x = some (decide (1 ≤ (x.length : Int) ∧ (x.length : Int) ≤ 6) && suf.all tok) := by
  induction suf with
  | nil =>
    intro k pre x hx hz hk
    obtain ⟨k, rfl⟩ : ∃ m, k = m + 1 := ⟨k - 1, by omega⟩
    have hl : x.length = pre.length := by simp [hx]
    simp only [spec_ProgramOk.l0]
    rw [if_neg (by omega), in_eq]
    simp
  | cons a t ih =>
    intro k pre x hx hz hk
    simp only [List.length_cons] at hk
    obtain ⟨k, rfl⟩ : ∃ m, k = m + 1 := ⟨k - 1, by omega⟩
    have hl : x.length = pre.length + (t.length + 1) := by simp [hx]
    have hr : rd_T62 x (pre.length : Int) = a := by rw [hx]; exact rd_app62 pre a t
    have hn : ((pre.length : Int) + 1) = (((pre ++ [a]).length : Nat) : Int) := by simp
    have hs := hz.2 a (by simp [hx])
    have hz1 := hz.1
    simp only [spec_ProgramOk.l0]
    rw [if_pos (by omega), if_pos (by omega), hr, sblock a.f0 (by omega) k (by omega)]
    simp only [Option.bind_some, List.all_cons]
    by_cases c : blk a.f0 = true
    · rw [if_pos c, sexpr]
      simp only [Option.bind_some]
      by_cases c2 : eok a.f1.f0 a.f1.f1 a.f1.f2 = true
      · have ht : tok a = true := by unfold tok; rw [c, c2]; rfl
        rw [if_pos c2, w64 (by omega) (by omega), hn, ih k (pre ++ [a]) x (by simp [hx]) hz (by omega), ht, Bool.true_and]
      · have ht : tok a = false := by unfold tok; rw [Bool.eq_false_iff.mpr c2, Bool.and_false]
        rw [if_neg c2, ht, Bool.false_and, Bool.and_false]
    · have ht : tok a = false := by unfold tok; rw [Bool.eq_false_iff.mpr c, Bool.false_and]
      rw [if_neg c, ht, Bool.false_and, Bool.and_false]
theorem sprog (x : List S62) (hz : Small x) (k : Nat) (hk : x.length + 2097162 ≤ k) : spec_ProgramOk.f k x = some (pok x) := by
  unfold spec_ProgramOk.f pok
  have := sprog_loop x k [] x rfl hz hk
  simp only [List.length_nil] at this
  rw [show ((0 : Nat) : Int) = 0 from rfl] at this
  exact this
/-- The value of a valid operand. -/
def opd (l : List Int) (n : Int) : Int := if n < 0 then rd l (-1 - n) else n
/-- The value of an expression; 0 where it or the variables are not valid. -/
def evx (l : List Int) (o a b : Int) : Int :=
  if (vok l && eok o a b) = true then
    if o = 1 then sat (sat (opd l a) + sat (opd l b)) else if o = 2 then sat (sat (opd l a) - sat (opd l b)) else if o = 3 then sat (sat (opd l a) * sat (opd l b))
    else if o = 4 then mn (opd l a) (opd l b) else if o = 5 then mx (opd l a) (opd l b) else if o = 6 then (if opd l a < opd l b then 1 else 0) else (if opd l a = opd l b then 1 else 0)
  else 0
theorem iopd {l : List Int} {n : Int} (hl : l.length = 8) (hn : -8 ≤ n ∧ n ≤ 999) : impl_operand.f l n = some (opd l n) := by
  unfold impl_operand.f opd
  by_cases c : n < 0
  · rw [if_pos c, if_pos c, w64 (by omega) (by omega), if_pos (by omega), if_pos (by omega)]
  · rw [if_neg c, if_neg c]
theorem sat64 (a b : Int) : wrap64 (sat a + sat b) = sat a + sat b ∧ wrap64 (sat a - sat b) = sat a - sat b ∧ wrap64 (sat a * sat b) = sat a * sat b := by
  have h1 := sat_in a; have h2 := sat_in b
  refine ⟨w64 (by omega) (by omega), w64 (by omega) (by omega), ?_⟩
  have h3 : (sat a).natAbs ≤ 1000000 := by omega
  have h4 : (sat b).natAbs ≤ 1000000 := by omega
  have h5 : (sat a * sat b).natAbs ≤ 1000000 * 1000000 := by rw [Int.natAbs_mul]; exact Nat.mul_le_mul h3 h4
  exact w64 (by omega) (by omega)
theorem ieval (l : List Int) (o a b : Int) (k : Nat) (hk : 1 ≤ k) : impl_EvalExpr.f k l o a b = some (evx l o a b) := by
  obtain ⟨k, rfl⟩ : ∃ m, k = m + 1 := ⟨k - 1, by omega⟩
  unfold impl_EvalExpr.f evx
  rw [ivars]
  simp only [Option.bind_some]
  cases hv : vok l with
  | false => simp [impl_EvalExpr.j0, hv]
  | true =>
    rw [iexpr]
    cases he : eok o a b with
    | false => simp [impl_EvalExpr.j0, hv, he]
    | true =>
      have hl := vok_len hv
      obtain ⟨ho, ha, hb⟩ := eok_in he
      simp only [impl_EvalExpr.j0, Option.bind_some, Bool.not_true, Bool.false_eq_true, if_false, if_true, Bool.and_self, iopd hl ha, iopd hl hb]
      unfold impl_AddValues.f impl_SubValues.f impl_MulValues.f impl_bit.f
      simp only [isat, Option.bind_some, (sat64 _ _).1, (sat64 _ _).2.1, (sat64 _ _).2.2]
      by_cases h1 : o = 1
      · simp only [if_pos h1]
      · simp only [if_neg h1]
        by_cases h2 : o = 2
        · simp only [if_pos h2]
        · simp only [if_neg h2]
          by_cases h3 : o = 3
          · simp only [if_pos h3]
          · simp only [if_neg h3]
            by_cases h4 : o = 4
            · simp only [if_pos h4]
            · simp only [if_neg h4]
              by_cases h5 : o = 5
              · simp only [if_pos h5]
              · simp only [if_neg h5]
                by_cases h6 : o = 6
                · simp only [if_pos h6]
                  by_cases c : opd l a < opd l b
                  · simp [c]
                  · simp [c]
                · simp only [if_neg h6]
                  by_cases c : opd l a = opd l b
                  · simp [c]
                  · simp [c]
theorem sopd {l : List Int} {n : Int} (hl : l.length = 8) (hn : -8 ≤ n ∧ n ≤ 999) : spec_l03Value.f l n = some (opd l n) := by
  unfold spec_l03Value.f opd
  by_cases c : n < 0
  · rw [if_pos c, if_pos c, w64 (by omega) (by omega), if_pos (by omega), if_pos (by omega)]
  · rw [if_neg c, if_neg c]
theorem sl03 {l : List Int} {o a b : Int} (hv : vok l = true) (he : eok o a b = true) (k : Nat) (hk1 : 1 ≤ k) : spec_l03Eval.f k l o a b = some (evx l o a b) := by
  unfold evx
  rw [if_pos (by rw [hv, he]; rfl)]
  have hl := vok_len hv
  obtain ⟨ho, ha, hb⟩ := eok_in he
  unfold spec_l03Eval.f spec_AddValues.f spec_SubValues.f spec_MulValues.f spec_l03Bit.f
  simp only [sopd hl ha, sopd hl hb, ssat k hk1, Option.bind_some, (sat64 _ _).1, (sat64 _ _).2.1, (sat64 _ _).2.2]
  by_cases h1 : o = 1
  · simp only [if_pos h1, Option.bind_some]
  · simp only [if_neg h1]
    by_cases h2 : o = 2
    · simp only [if_pos h2, Option.bind_some]
    · simp only [if_neg h2]
      by_cases h3 : o = 3
      · simp only [if_pos h3, Option.bind_some]
      · simp only [if_neg h3]
        by_cases h4 : o = 4
        · simp only [if_pos h4, Option.bind_some]
        · simp only [if_neg h4]
          by_cases h5 : o = 5
          · simp only [if_pos h5, Option.bind_some]
          · simp only [if_neg h5]
            by_cases h6 : o = 6
            · simp only [if_pos h6]
              by_cases c : opd l a < opd l b
              · simp [c]
              · simp [c]
            · simp only [if_neg h6]
              by_cases c : opd l a = opd l b
              · simp [c]
              · simp [c]
theorem pok_at {x : List S62} (h : pok x = true) (i : Int) (h0 : 0 ≤ i) (h1 : i < (x.length : Int)) : eok (rd_T62 x i).f1.f0 (rd_T62 x i).f1.f1 (rd_T62 x i).f1.f2 = true := by
  have hi : i.toNat < x.length := by omega
  have hm : rd_T62 x i ∈ x := by
    unfold rd_T62
    rw [List.getD_eq_getElem?_getD, List.getElem?_eq_getElem hi]
    exact List.getElem_mem hi
  unfold pok at h
  rw [Bool.and_eq_true, List.all_eq_true] at h
  have := h.2 _ hm
  unfold tok at this
  rw [Bool.and_eq_true] at this
  exact this.2
theorem pok_len {x : List S62} (h : pok x = true) : 1 ≤ (x.length : Int) ∧ (x.length : Int) ≤ 6 := by
  unfold pok at h
  rw [Bool.and_eq_true] at h
  exact of_decide_eq_true h.1
/-- The task that follows. -/
def nxt (x : List S62) (v : List Int) (i : Int) : Int :=
  if pok x = true ∧ vok v = true ∧ 0 ≤ i ∧ i ≤ (x.length : Int) - 1 then
    (let r := Int.tmod (evx v (rd_T62 x i).f1.f0 (rd_T62 x i).f1.f1 (rd_T62 x i).f1.f2) (x.length : Int)
     if r < 0 then r + x.length else r) else -1
theorem inext (x : List S62) (hz : Small x) (v : List Int) (i : Int) (k : Nat) (hk : x.length + 2097162 ≤ k) : impl_NextTask.f k x v i = some (nxt x v i) := by
  unfold impl_NextTask.f impl_hasTask.f nxt
  have hz1 := hz.1
  rw [iprog x hz k hk, within_eq, ivars, w64 (n := (x.length : Int) - 1) (by omega) (by omega)]
  simp only [Option.bind_some]
  by_cases hp : pok x = true
  · have hl := pok_len hp
    rw [if_pos hp]
    simp only [Option.bind_some, decide_eq_true_eq]
    by_cases hi : 0 ≤ i ∧ i ≤ (x.length : Int) - 1
    · rw [if_pos hi]
      by_cases hv : vok v = true
      · rw [if_pos hv, if_pos hi.1, if_pos (by omega), ieval v _ _ _ k (by omega), if_pos ⟨hp, hv, hi⟩]
        simp only [Option.bind_some]
        rw [if_neg (by omega)]
        have r1 := Int.tmod_lt_of_pos (evx v (rd_T62 x i).f1.f0 (rd_T62 x i).f1.f1 (rd_T62 x i).f1.f2) (show 0 < (x.length : Int) by omega)
        have r2 := Int.lt_tmod_of_pos (evx v (rd_T62 x i).f1.f0 (rd_T62 x i).f1.f1 (rd_T62 x i).f1.f2) (show 0 < (x.length : Int) by omega)
        generalize Int.tmod (evx v (rd_T62 x i).f1.f0 (rd_T62 x i).f1.f1 (rd_T62 x i).f1.f2) (x.length : Int) = r at *
        rw [w64 (by omega) (by omega), Int.tmod_eq_emod_of_nonneg (by omega)]
        congr 1
        by_cases c : r < 0
        · rw [if_pos c, Int.emod_eq_of_lt (by omega) (by omega)]
        · rw [if_neg c, Int.add_emod_right, Int.emod_eq_of_lt (by omega) (by omega)]
      · rw [if_neg hv, if_neg (by simp [hv])]
    · rw [if_neg hi, if_neg (by intro h; exact hi h.2.2)]
  · rw [if_neg hp]
    simp only [Option.bind_some]
    rw [if_neg (by simp), if_neg (by simp [hp])]
theorem snext (x : List S62) (hz : Small x) (v : List Int) (sv : (v.length : Int) ≤ 1048576) (i : Int) (k : Nat) (hk : x.length + v.length + 2097162 ≤ k) : spec_NextTask.f k x v i = some (nxt x v i) := by
  unfold spec_NextTask.f spec_l06Next.f nxt
  have hz1 := hz.1
  rw [sprog x hz k (by omega), svars v (by omega) k (by omega), in_eq, w64 (n := (x.length : Int) - 1) (by omega) (by omega)]
  simp only [Option.bind_some]
  by_cases hp : pok x = true
  · have hl := pok_len hp
    rw [if_pos hp]
    by_cases hv : vok v = true
    · rw [if_pos hv]
      simp only [decide_eq_true_eq]
      by_cases hi : 0 ≤ i ∧ i ≤ (x.length : Int) - 1
      · rw [if_pos hi, if_pos hi.1, if_pos (show i < (x.length : Int) by omega), sl03 hv (pok_at hp i hi.1 (by omega)) k (by omega), if_pos ⟨hp, hv, hi⟩]
        simp only [Option.bind_some]
        rw [if_neg (show ¬ (x.length : Int) = 0 by omega)]
        have r1 := Int.tmod_lt_of_pos (evx v (rd_T62 x i).f1.f0 (rd_T62 x i).f1.f1 (rd_T62 x i).f1.f2) (show 0 < (x.length : Int) by omega)
        have r2 := Int.lt_tmod_of_pos (evx v (rd_T62 x i).f1.f0 (rd_T62 x i).f1.f1 (rd_T62 x i).f1.f2) (show 0 < (x.length : Int) by omega)
        generalize Int.tmod (evx v (rd_T62 x i).f1.f0 (rd_T62 x i).f1.f1 (rd_T62 x i).f1.f2) (x.length : Int) = r at *
        by_cases c : r < 0
        · rw [if_pos c, if_pos c, w64 (by omega) (by omega)]; rfl
        · rw [if_neg c, if_neg c]; rfl
      · rw [if_neg hi, if_neg (by intro h; exact hi h.2.2)]
    · rw [if_neg hv, if_neg (by simp [hv])]
  · rw [if_neg hp, if_neg (by simp [hp])]
theorem asc_eq {a b : List Int} (ha : a.Pairwise (· < ·)) (hb : b.Pairwise (· < ·)) (h : ∀ x, x ∈ a ↔ x ∈ b) : a = b := by
  have na : a.Nodup := ha.imp (fun hlt => Int.ne_of_lt hlt)
  have nb : b.Nodup := hb.imp (fun hlt => Int.ne_of_lt hlt)
  have hp : a.Perm b := (List.perm_ext_iff_of_nodup na nb).2 h
  exact hp.eq_of_pairwise (fun x y _ _ h1 h2 => by omega) ha hb
theorem compactUpTo_asc (d : Array Int) (hs : ∀ i j, i ≤ j → j < d.size → d[i]! ≤ d[j]!) (m : Nat) (hm : m ≤ d.size) :
    (Lib.compactUpTo d m).Pairwise (· < ·) ∧ (∀ x, x ∈ Lib.compactUpTo d m ↔ ∃ j, j < m ∧ d[j]! = x) := by
  induction m with
  | zero => exact ⟨by simp [Lib.compactUpTo], by simp [Lib.compactUpTo]⟩
  | succ m ih =>
    obtain ⟨h1, h2⟩ := ih (by omega)
    rw [Lib.compactUpTo_succ]
    cases hk : Lib.keeps d m with
    | true =>
      simp only [if_true]
      refine ⟨?_, fun x => ?_⟩
      · rw [List.pairwise_append]
        refine ⟨h1, by simp, fun x hx y hy => ?_⟩
        rw [List.mem_singleton] at hy
        subst hy
        obtain ⟨j, hj, rfl⟩ := (h2 x).1 hx
        have hle1 := hs j (m - 1) (by omega) (by omega)
        have hle2 := hs (m - 1) m (by omega) (by omega)
        have hne : m = 0 ∨ d[m]! ≠ d[m - 1]! := by
          unfold Lib.keeps at hk
          exact of_decide_eq_true hk
        rcases hne with h | h
        · omega
        · omega
      · rw [List.mem_append, h2, List.mem_singleton]
        constructor
        · rintro (⟨j, hj, rfl⟩ | rfl)
          · exact ⟨j, by omega, rfl⟩
          · exact ⟨m, by omega, rfl⟩
        · rintro ⟨j, hj, rfl⟩
          by_cases e : j = m
          · subst e; exact .inr rfl
          · exact .inl ⟨j, by omega, rfl⟩
    | false =>
      simp only [Bool.false_eq_true, if_false, List.append_nil]
      refine ⟨h1, fun x => ?_⟩
      rw [h2]
      have hd : ¬ (m = 0 ∨ d[m]! ≠ d[m - 1]!) := by
        unfold Lib.keeps at hk
        exact of_decide_eq_false hk
      have hm0 : m ≠ 0 := fun e => hd (.inl e)
      have he : d[m]! = d[m - 1]! := by
        by_cases e : d[m]! = d[m - 1]!
        · exact e
        · exact absurd (.inr e) hd
      constructor
      · rintro ⟨j, hj, rfl⟩
        exact ⟨j, by omega, rfl⟩
      · rintro ⟨j, hj, rfl⟩
        by_cases e : j = m
        · subst e; exact ⟨j - 1, by omega, he.symm⟩
        · exact ⟨j, by omega, rfl⟩
/-- Sorted and compacted: each element once, ascending. -/
theorem sortc (l : List Int) : (Lib.compact (l.mergeSort fun x y => decide (x ≤ y))).Pairwise (· < ·) ∧ ∀ x, x ∈ Lib.compact (l.mergeSort fun x y => decide (x ≤ y)) ↔ x ∈ l := by
  have hp : (l.mergeSort fun x y => decide (x ≤ y)).Perm l := List.mergeSort_perm _ _
  have hs := List.pairwise_mergeSort (le := fun (x y : Int) => decide (x ≤ y)) (by intro a b c h1 h2; simp at *; omega) (by intro a b; simp; omega) l
  generalize (l.mergeSort fun x y => decide (x ≤ y)) = s at hp hs
  have hidx : ∀ i j, i ≤ j → j < s.toArray.size → s.toArray[i]! ≤ s.toArray[j]! := by
    intro i j hij hj
    have hj' : j < s.length := by simpa using hj
    have e1 : s.toArray[i]! = s[i]'(by omega) := by simp [getElem!_pos, show i < s.length by omega]
    have e2 : s.toArray[j]! = s[j]'hj' := by simp [getElem!_pos, hj']
    rw [e1, e2]
    by_cases e : i = j
    · subst e; exact Int.le_refl _
    · have := List.pairwise_iff_getElem.1 hs i j (by omega) hj' (by omega)
      exact of_decide_eq_true this
  obtain ⟨h1, h2⟩ := compactUpTo_asc s.toArray hidx s.length (by simp)
  refine ⟨h1, fun x => ?_⟩
  rw [← hp.mem_iff]
  unfold Lib.compact
  rw [h2]
  constructor
  · rintro ⟨j, hj, rfl⟩
    have e1 : s.toArray[j]! = s[j]'hj := by simp [getElem!_pos, hj]
    rw [e1]
    exact List.getElem_mem hj
  · intro hx
    obtain ⟨j, hj, rfl⟩ := List.mem_iff_getElem.1 hx
    exact ⟨j, hj, by simp [getElem!_pos, hj]⟩
/-- The variables, ascending, that are operands. -/
def hit (a b : Int) (i : Nat) : Bool := decide (a = -1 - (i : Int)) || decide (b = -1 - (i : Int))
def rds (o a b : Int) : List Int := if eok o a b = true then ((List.range 8).filter (hit a b)).map (fun i : Nat => (i : Int)) else []
theorem asc_range (p : Nat → Bool) (n : Nat) : (((List.range n).filter p).map (fun i : Nat => (i : Int))).Pairwise (· < ·) := by
  rw [List.pairwise_map]
  exact (List.pairwise_lt_range.filter p).imp (fun h => by omega)
theorem mem_rds {o a b : Int} (h : eok o a b = true) (x : Int) : x ∈ rds o a b ↔ 0 ≤ x ∧ x < 8 ∧ (a = -1 - x ∨ b = -1 - x) := by
  unfold rds
  rw [if_pos h]
  simp only [List.mem_map, List.mem_filter, List.mem_range, hit, Bool.or_eq_true, decide_eq_true_eq]
  constructor
  · rintro ⟨i, ⟨hi, hh⟩, rfl⟩
    exact ⟨by omega, by omega, hh⟩
  · rintro ⟨h0, h1, hh⟩
    exact ⟨x.toNat, ⟨by omega, by rw [Int.toNat_of_nonneg h0]; exact hh⟩, by omega⟩
theorem ireads (o a b : Int) (k : Nat) (hk : 3 ≤ k) : impl_ReadsOf.f k o a b = some (rds o a b) := by
  obtain ⟨k, rfl⟩ : ∃ m, k = m + 3 := ⟨k - 3, by omega⟩
  unfold impl_ReadsOf.f
  rw [iexpr]
  simp only [Option.bind_some]
  by_cases h : eok o a b = true
  · rw [if_pos h]
    obtain ⟨_, ha, hb⟩ := eok_in h
    have ra : rd [a, b] 0 = a := rfl
    have rb : rd [a, b] 1 = b := rfl
    have hfin : ∀ l : List Int, l.length ≤ 2 → (∀ x, x ∈ l ↔ (a < 0 ∧ x = -1 - a) ∨ (b < 0 ∧ x = -1 - b)) → ((slices_Sort_int_int.f l).bind fun t => ((slices_Compact_int_int.f t).bind fun t => some t)) = some (rds o a b) := by
      intro l hl hm
      obtain ⟨h1, h2⟩ := sortc l
      unfold slices_Sort_int_int.f
      rw [if_pos (by omega)]
      simp only [Option.bind_some]
      unfold slices_Compact_int_int.f
      rw [if_pos (by rw [List.length_mergeSort]; omega)]
      simp only [Option.bind_some]
      congr 1
      refine asc_eq h1 (by unfold rds; rw [if_pos h]; exact asc_range _ _) (fun x => ?_)
      rw [h2, hm, mem_rds h]
      omega
    have w1 : wrap64 (-1 - a) = -1 - a := w64 (by omega) (by omega)
    have w2 : wrap64 (-1 - b) = -1 - b := w64 (by omega) (by omega)
    have w3 : wrap64 (0 + 1) = 1 := by rw [w64 (by omega) (by omega)]; rfl
    have w4 : wrap64 (1 + 1) = 2 := by rw [w64 (by omega) (by omega)]; rfl
    have w5 : wrap64 1 = 1 := w64 (by omega) (by omega)
    have w6 : wrap64 2 = 2 := w64 (by omega) (by omega)
    have l0 : (0 : Int) < (([a, b] : List Int).length : Int) := by simp
    have l1 : (1 : Int) < (([a, b] : List Int).length : Int) := by simp
    have l2 : ¬ (2 : Int) < (([a, b] : List Int).length : Int) := by simp
    have g1 : (0 : Int) ≤ 1 := by decide
    have g0 : (0 : Int) ≤ 0 := by decide
    by_cases ca : a < 0
    · by_cases cb : b < 0
      · simp only [impl_ReadsOf.l0, if_pos l0, if_pos l1, if_neg l2, if_pos g0, if_pos g1, ra, rb, if_pos ca, if_pos cb, w1, w2, w3, w4, w5, w6]
        rw [if_pos (by simp), if_pos (by simp)]
        exact hfin _ (by simp) (fun x => by simp; omega)
      · simp only [impl_ReadsOf.l0, if_pos l0, if_pos l1, if_neg l2, if_pos g0, if_pos g1, ra, rb, if_pos ca, if_neg cb, w1, w3, w4, w5, w6]
        rw [if_pos (by simp)]
        exact hfin _ (by simp) (fun x => by simp; omega)
    · by_cases cb : b < 0
      · simp only [impl_ReadsOf.l0, if_pos l0, if_pos l1, if_neg l2, if_pos g0, if_pos g1, ra, rb, if_neg ca, if_pos cb, w2, w3, w4, w5, w6]
        rw [if_pos (by simp)]
        exact hfin _ (by simp) (fun x => by simp; omega)
      · simp only [impl_ReadsOf.l0, if_pos l0, if_pos l1, if_neg l2, if_pos g0, if_pos g1, ra, rb, if_neg ca, if_neg cb, w3, w4, w5, w6]
        exact hfin _ (by simp) (fun x => by simp; omega)
  · rw [if_neg h]
    unfold rds
    rw [if_neg h]
theorem rd_get2 (xs : List Int) (i : Int) (h0 : 0 ≤ i) (h1 : i < (xs.length : Int)) : xs[i.toNat]? = some (rd xs i) := by
  have h : i.toNat < xs.length := by omega
  unfold Go.Proofs.YtkjdhmffknahgaaW.PrintWords.rd
  rw [List.getD_eq_getElem?_getD, List.getElem?_eq_getElem h]
  rfl
theorem has_loop (r : List Int) (x : Int) (sz : (r.length : Int) ≤ 1000000) (d : Nat) : ∀ (k : Nat) (i : Int), 0 ≤ i → (r.length : Int) - i = d → d < k → laws_has.l0 k r x i = some (decide (x ∈ r.drop i.toNat)) := by
  induction d with
  | zero =>
    intro k i h0 hd hk
    obtain ⟨k, rfl⟩ : ∃ m, k = m + 1 := ⟨k - 1, by omega⟩
    simp only [laws_has.l0]
    rw [if_neg (by omega), List.drop_eq_nil_of_le (by omega)]
    simp
  | succ d ih =>
    intro k i h0 hd hk
    obtain ⟨k, rfl⟩ : ∃ m, k = m + 1 := ⟨k - 1, by omega⟩
    have hi : i.toNat < r.length := by omega
    have hr : rd r i = r[i.toNat] := by
      have := rd_get2 r i h0 (by omega)
      rw [List.getElem?_eq_getElem hi] at this
      exact (Option.some.inj this).symm
    simp only [laws_has.l0]
    rw [if_pos (by omega), if_pos h0, List.drop_eq_getElem_cons hi, ← hr]
    by_cases c : rd r i = x
    · rw [if_pos c, c]; simp
    · rw [if_neg c, w64 (by omega) (by omega), ih k (i + 1) (by omega) (by omega) (by omega), show (i + 1).toNat = i.toNat + 1 by omega]
      congr 1
      rw [Bool.eq_iff_iff]
      simp only [decide_eq_true_eq, List.mem_cons]
      constructor
      · exact Or.inr
      · rintro (h | h)
        · exact absurd h.symm c
        · exact h
theorem prog_loop (l : List Int) (d : Nat) : ∀ (k : Nat) (out : List S62) (j i g : Int), OkC l i → 0 ≤ j → (out.length : Int) = j → 3 - j = d → d + 40 < k → (1 ≤ j ∨ d = 3) → (∀ s ∈ out, tok s = true) →
    ∃ p i' g', spec_l06Program.l0 k j l i g out = some (p, i', g') ∧ 1 ≤ p.length ∧ p.length ≤ 3 ∧ ∀ s ∈ p, tok s = true := by
  induction d with
  | zero =>
    intro k out j i g ok h0 hl hd hk hj ho
    obtain ⟨k, rfl⟩ : ∃ m, k = m + 1 := ⟨k - 1, by omega⟩
    simp only [spec_l06Program.l0]
    obtain ⟨x, i1, g1, e1, ok1, x0, x1⟩ := below_tells g 3 ok (by omega)
    rw [e1]
    simp only [Option.bind_some]
    rw [w64 (n := 1 + x) (by omega) (by omega), if_neg (by omega)]
    exact ⟨_, _, _, rfl, by omega, by omega, ho⟩
  | succ d ih =>
    intro k out j i g ok h0 hl hd hk hj ho
    obtain ⟨k, rfl⟩ : ∃ m, k = m + 1 := ⟨k - 1, by omega⟩
    simp only [spec_l06Program.l0]
    obtain ⟨x, i1, g1, e1, ok1, x0, x1⟩ := below_tells g 3 ok (by omega)
    rw [e1]
    simp only [Option.bind_some]
    rw [w64 (n := 1 + x) (by omega) (by omega)]
    by_cases c : j < 1 + x
    · rw [if_pos c]
      obtain ⟨b, i2, g2, e2, ok2, hb⟩ := case_in g1 ok1 k (by omega)
      obtain ⟨o, a, q, i3, g3, e3, ok3, he⟩ := expr_in g2 ok2
      rw [e2]
      simp only [Option.bind_some]
      rw [e3]
      simp only [Option.bind_some]
      rw [if_pos (by omega), w64 (n := j + 1) (by omega) (by omega)]
      refine ih k _ (j + 1) i3 g3 ok3 (by omega) (by simp; omega) (by omega) (by omega) (Or.inl (by omega)) ?_
      intro s hs
      rcases List.mem_append.1 hs with h | h
      · exact ho s h
      · rw [List.mem_singleton.1 h]; unfold tok; simp only; rw [hb, he]; rfl
    · rw [if_neg c]
      exact ⟨_, _, _, rfl, by omega, by omega, ho⟩
theorem drawProg (l : List Int) (sz : (l.length : Int) ≤ 140737488351232) : ∃ p, (∀ k, l.length + 50 ≤ k → spec_DrawProgram.f k l = some p) ∧ pok p = true ∧ Small p := by
  obtain ⟨g, eg⟩ := new_tells l sz
  obtain ⟨p, i', g', e, h1, h3, ht⟩ := prog_loop l 3 44 [] 0 0 g (ok_start sz) (by omega) (by simp) (by omega) (by omega) (Or.inr rfl) (by simp)
  refine ⟨p, fun k hk => ?_, ?_, by omega, fun s hs => ?_⟩
  · unfold spec_DrawProgram.f spec_l06Program.f
    rw [eg k (by omega)]
    simp only [Option.bind_some]
    rw [at_rounds (fun k => spec_l06Program.mono_l k _ _ _ _ _) (by omega : 44 ≤ k) e]
    rfl
  · unfold pok
    rw [Bool.and_eq_true, List.all_eq_true]
    exact ⟨decide_eq_true (by omega), ht⟩
  · have := ht s hs
    unfold tok at this
    rw [Bool.and_eq_true] at this
    have h24 : s.f0.length ≤ 24 := by
      have := this.1
      unfold blk fin at this
      rw [Bool.and_eq_true] at this
      exact of_decide_eq_true this.2
    omega
theorem FnNextTasks : laws_FnNextTasks.Pure := by
  intro l _ hl _
  obtain ⟨x, ex, hp, hs⟩ := drawProg l (by omega)
  obtain ⟨p, ep, hpl, hin⟩ := places_tells l (by omega)
  obtain ⟨v, ev, hv⟩ := drawVars_tells l (by omega)
  have hvl := vok_len hv
  have hxl := pok_len hp
  obtain ⟨K, hK⟩ : ∃ K, l.length + 4000000 < K := ⟨_, Nat.lt_succ_self _⟩
  refine ⟨K, ?_⟩
  unfold laws_FnNextTasks.f laws_big.f
  simp only [Option.bind_some]
  by_cases c : (l.length : Int) > 1048576
  · rw [if_pos (decide_eq_true c)]
  · rw [if_neg (by simp; omega), ex _ (by omega), ev _ (by omega), ep _ (by omega)]
    simp only [Option.bind_some]
    have h0 := rd_in 0 (by omega) (by omega) hin
    have h1 := rd_in 1 (by omega) (by omega) hin
    have h2 := rd_in 2 (by omega) (by omega) hin
    have t0 := tmod_in (rd p 0) (x.length : Int) h0.1 (by omega)
    have t1 := tmod_in (rd p 1) 8 h1.1 (by omega)
    generalize Int.tmod (rd p 0) (x.length : Int) = t at *
    generalize Int.tmod (rd p 1) 8 = q at *
    have he := pok_at hp t t0.1 t0.2
    rw [if_pos (show 0 < (p.length : Int) by omega), if_neg (show ¬ (x.length : Int) = 0 by omega), inext x hs v t K (by omega)]
    simp only [Option.bind_some, List.length_nil, List.nil_append]
    rw [if_pos (show 1 < (p.length : Int) by omega), if_pos (show 0 + v.length < 17592186044416 by omega), if_pos (show 2 < (p.length : Int) by omega), if_pos t1.1, if_pos (show q < (v.length : Int) by omega), snext x hs v (by omega) t K (by omega)]
    simp only [Option.bind_some, if_true]
    have hn : 0 ≤ nxt x v t ∧ nxt x v t < (x.length : Int) := by
      unfold nxt
      rw [if_pos ⟨hp, hv, t0.1, by omega⟩]
      have r1 := Int.tmod_lt_of_pos (evx v (rd_T62 x t).f1.f0 (rd_T62 x t).f1.f1 (rd_T62 x t).f1.f2) (show 0 < (x.length : Int) by omega)
      have r2 := Int.lt_tmod_of_pos (evx v (rd_T62 x t).f1.f0 (rd_T62 x t).f1.f1 (rd_T62 x t).f1.f2) (show 0 < (x.length : Int) by omega)
      simp only
      split <;> omega
    rw [if_pos (show nxt x v t ≥ 0 from hn.1), if_pos hn.2, if_pos t0.1, if_pos t0.2, ireads _ _ _ K (by omega)]
    simp only [Option.bind_some]
    have hlen : ((rds (rd_T62 x t).f1.f0 (rd_T62 x t).f1.f1 (rd_T62 x t).f1.f2).length : Int) ≤ 1000000 := by
      have : (rds (rd_T62 x t).f1.f0 (rd_T62 x t).f1.f1 (rd_T62 x t).f1.f2).length ≤ 8 := by
        unfold rds
        rw [if_pos he, List.length_map]
        exact Nat.le_trans (List.length_filter_le _ _) (by simp)
      omega
    have hh := has_loop (rds (rd_T62 x t).f1.f0 (rd_T62 x t).f1.f1 (rd_T62 x t).f1.f2) q hlen _ K 0 (by omega) (Int.sub_zero _) (by omega)
    unfold laws_has.f
    rw [hh]
    simp only [Option.bind_some, Int.toNat_zero, List.drop_zero]
    by_cases hm : q ∈ rds (rd_T62 x t).f1.f0 (rd_T62 x t).f1.f1 (rd_T62 x t).f1.f2
    · rw [if_pos (decide_eq_true hm)]
    · rw [if_neg (by simp [hm]), w64 (n := rd p 2 - 5000) (by omega) (by omega), inext x hs _ t K (by omega)]
      simp only [Option.bind_some]
      generalize hn2 : rd p 2 - 5000 = n
      have hw : vok (v.set q.toNat n) = true := by
        refine vok_of (by rw [List.length_set]; exact hvl) (fun y hy => ?_)
        rcases List.mem_or_eq_of_mem_set hy with hy | hy
        · unfold vok at hv
          rw [Bool.and_eq_true, List.all_eq_true] at hv
          exact of_decide_eq_true (hv.2 y hy)
        · omega
      have hm2 : ¬ ((rd_T62 x t).f1.f1 = -1 - q ∨ (rd_T62 x t).f1.f2 = -1 - q) := fun h => hm ((mem_rds he q).2 ⟨t1.1, t1.2, h⟩)
      have hr : ∀ m, -8 ≤ m ∧ m ≤ 999 → m ≠ -1 - q → opd (v.set q.toNat n) m = opd v m := by
        intro m hm1 hm2
        unfold opd
        by_cases cm : m < 0
        · rw [if_pos cm, if_pos cm]
          have q1 := rd_get2 v (-1 - m) (by omega) (by omega)
          have q2 := rd_get2 (v.set q.toNat n) (-1 - m) (by omega) (by rw [List.length_set]; omega)
          rw [List.getElem?_set_ne (by omega), q1] at q2
          exact (Option.some.inj q2).symm
        · rw [if_neg cm, if_neg cm]
      obtain ⟨_, ha, hb⟩ := eok_in he
      have hx : nxt x (v.set q.toNat n) t = nxt x v t := by
        unfold nxt evx
        rw [hw, hv, hr _ ha (by omega), hr _ hb (by omega)]
      rw [hx]
      simp

end Go.Proofs.Ytkjdhmffknahgaa.Pure
