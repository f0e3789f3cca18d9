/- The program's WriteWord and the reference's return the same for every slice and write, in memory of their own, and leave the slice as it was; no condition. -/
import Derived.Test.YtakejkdkchlanaaPFnExactWriteWordx2
namespace Go.Proofs.Ytakejkdkchlanaa.Pure
open Go.RowKit Go.Proofs.Ytakejkdkchlanaa.PFnExactWriteWord Go.Proofs.YtakejkdkchlanaaW.PrintWords Go.Proofs.YtakejkdkchlanaaW.PrintLast
set_option linter.unusedVariables false
set_option linter.unusedSimpArgs false

theorem w64 {n : Int} (h1 : -9223372036854775808 ≤ n) (h2 : n ≤ 9223372036854775807) : wrap64 n = n := by unfold wrap64; omega
theorem w64_in (n : Int) : -9223372036854775808 ≤ wrap64 n ∧ wrap64 n ≤ 9223372036854775807 := by unfold wrap64; omega
theorem wf64 {n : Int} (h : (Lit.int .i64 n).wf = true) : -9223372036854775808 ≤ n ∧ n ≤ 9223372036854775807 := by
  simp only [Lit.wf, IntKind.min, IntKind.max, IntKind.signed, IntKind.bits, Bool.and_eq_true, decide_eq_true_eq, if_true] at h
  omega
theorem wfu8 {n : Int} (h : (Lit.int .u8 n).wf = true) : 0 ≤ n ∧ n ≤ 255 := by
  simp [Lit.wf, IntKind.min, IntKind.max, IntKind.signed, IntKind.bits] at h
  omega
theorem and_in (x : Int) (m : Nat) (hm : m < 9223372036854775808) : 0 ≤ Go.bits .and .i64 x (m : Int) ∧ Go.bits .and .i64 x (m : Int) ≤ m := by
  have h1 : (BitVec.ofInt 64 x &&& BitVec.ofInt 64 (m : Int)).toNat ≤ m := by
    rw [BitVec.toNat_and]
    refine Nat.le_trans Nat.and_le_right ?_
    rw [BitVec.ofInt_natCast, BitVec.toNat_ofNat]
    exact Nat.mod_le _ _
  have h2 : Go.bits .and .i64 x (m : Int) = IntKind.i64.wrap (((BitVec.ofInt 64 x &&& BitVec.ofInt 64 (m : Int)).toNat : Nat) : Int) := rfl
  rw [h2, Go.IntKind.wrap_i64]
  omega
theorem and255 (x : Int) : 0 ≤ Go.bits .and .i64 x 255 ∧ Go.bits .and .i64 x 255 ≤ 255 := and_in x 255 (by decide)
theorem tmod_in (x n : Int) (h0 : 0 ≤ x) (h : 1 ≤ n) : 0 ≤ Int.tmod x n ∧ Int.tmod x n < n := ⟨Int.tmod_nonneg _ h0, Int.tmod_lt_of_pos _ (by omega)⟩
theorem in_eq (a b c : Int) : spec_l01In.f a b c = some (decide (b ≤ a ∧ a ≤ c)) := by
  unfold spec_l01In.f
  by_cases h : a ≥ b
  · rw [if_pos h]; simp; omega
  · rw [if_neg h]; simp; omega
theorem within_eq (a b c : Int) : impl_within.f a b c = some (decide (b ≤ a ∧ a ≤ c)) := by
  unfold impl_within.f
  by_cases h : a ≥ b
  · rw [if_pos h]; simp; omega
  · rw [if_neg h]; simp; omega
theorem rd_get (xs : List Int) (i : Int) (h0 : 0 ≤ i) (h1 : i < (xs.length : Int)) : xs[i.toNat]? = some (rd xs i) := by
  have h : i.toNat < xs.length := by omega
  unfold Go.Proofs.YtakejkdkchlanaaW.PrintWords.rd
  rw [List.getD_eq_getElem?_getD, List.getElem?_eq_getElem h]
  rfl
theorem toInt_loop (l : List Int) (sz : (l.length : Int) ≤ 140737488351232) (d : Nat) : ∀ (k : Nat) (x : List Int) (i : Int), 0 ≤ i → i ≤ l.length → (l.length : Int) - i = d → d < k → x.length = l.length → (∀ j : Nat, (j : Int) < i → x[j]? = l[j]?) →
    laws_toIntS.l0 k l x i = some l := by
  induction d with
  | zero =>
    intro k x i h0 h1 hd hk hl hx
    obtain ⟨k, rfl⟩ : ∃ m, k = m + 1 := ⟨k - 1, by omega⟩
    simp only [laws_toIntS.l0]
    rw [if_neg (by omega)]
    congr 1
    apply List.ext_getElem?
    intro j
    by_cases hj : (j : Int) < i
    · exact hx j hj
    · rw [List.getElem?_eq_none (by omega), List.getElem?_eq_none (by omega)]
  | succ d ih =>
    intro k x i h0 h1 hd hk hl hx
    obtain ⟨k, rfl⟩ : ∃ m, k = m + 1 := ⟨k - 1, by omega⟩
    simp only [laws_toIntS.l0]
    rw [if_pos (by omega), if_pos h0, if_pos (by omega), w64 (n := i + 1) (by omega) (by omega)]
    refine ih k _ (i + 1) (by omega) (by omega) (by omega) (by omega) (by simp [hl]) ?_
    intro j hj
    by_cases e : (j : Int) = i
    · have e2 : j = i.toNat := by omega
      subst e2
      rw [rd_get l i h0 (by omega), List.getElem?_set_self (by omega)]
    · rw [List.getElem?_set_ne (by omega)]
      exact hx j (by omega)
theorem toInt_tells (l : List Int) (h : (l.length : Int) ≤ 1048576) : ∀ k, l.length < k → laws_toIntS.f k l = some l := by
  intro k hk
  unfold laws_toIntS.f
  rw [if_pos (by omega), if_pos (by omega)]
  exact toInt_loop l (by omega) l.length k _ 0 (by omega) (by omega) (by omega) hk (by simp) (fun j hj => by omega)
theorem eqInt_loop (l : List Int) (sz : (l.length : Int) ≤ 140737488351232) (d : Nat) : ∀ (k : Nat) (i : Int), 0 ≤ i → i ≤ l.length → (l.length : Int) - i = d → d < k → laws_eqIntS.l0 k l l i = some true := by
  induction d with
  | zero =>
    intro k i h0 h1 hd hk
    obtain ⟨k, rfl⟩ : ∃ m, k = m + 1 := ⟨k - 1, by omega⟩
    simp only [laws_eqIntS.l0]
    rw [if_neg (by omega)]
  | succ d ih =>
    intro k i h0 h1 hd hk
    obtain ⟨k, rfl⟩ : ∃ m, k = m + 1 := ⟨k - 1, by omega⟩
    simp only [laws_eqIntS.l0]
    rw [if_pos (by omega), if_pos h0, if_pos (by omega), if_pos trivial, w64 (n := i + 1) (by omega) (by omega)]
    exact ih k (i + 1) (by omega) (by omega) (by omega) (by omega)
theorem eqInt_self (l : List Int) (sz : (l.length : Int) ≤ 140737488351232) : ∀ k, l.length < k → laws_eqIntS.f k l l = some true := by
  intro k hk
  unfold laws_eqIntS.f
  rw [if_pos rfl]
  exact eqInt_loop l sz l.length k 0 (by omega) (by omega) (by omega) hk
theorem mark_loop (d : Nat) : ∀ (k : Nat) (x : List Int) (a i : Int), 0 ≤ i → i ≤ x.length → (x.length : Int) - i = d → d < k → (x.length : Int) ≤ 140737488351232 → 0 ≤ a → a + d ≤ 1407374883512320 →
    ∃ y, laws_markIntS.l0 k x a i = some (a + d, y) ∧ y.length = x.length ∧ (∀ j : Nat, (j : Int) < i → y[j]? = x[j]?) ∧ ∀ j : Nat, i ≤ (j : Int) → (j : Int) < x.length → y[j]? = some (a + ((j : Int) - i)) := by
  induction d with
  | zero =>
    intro k x a i h0 h1 hd hk sz a0 a1
    obtain ⟨k, rfl⟩ : ∃ m, k = m + 1 := ⟨k - 1, by omega⟩
    refine ⟨x, ?_, rfl, fun _ _ => rfl, fun j h2 h3 => by omega⟩
    simp only [laws_markIntS.l0]
    rw [if_neg (by omega)]
    simp
  | succ d ih =>
    intro k x a i h0 h1 hd hk sz a0 a1
    obtain ⟨k, rfl⟩ : ∃ m, k = m + 1 := ⟨k - 1, by omega⟩
    have hl : (x.set i.toNat a).length = x.length := List.length_set
    obtain ⟨y, e, hy, hlo, hhi⟩ := ih k (x.set i.toNat a) (a + 1) (i + 1) (by omega) (by omega) (by omega) (by omega) (by omega) (by omega) (by omega)
    refine ⟨y, ?_, by omega, fun j hj => ?_, fun j hj hj2 => ?_⟩
    · simp only [laws_markIntS.l0]
      rw [if_pos (by omega), if_pos h0, w64 (n := a + 1) (by omega) (by omega), w64 (n := i + 1) (by omega) (by omega), e]
      congr 2
      omega
    · rw [hlo j (by omega), List.getElem?_set_ne (by omega)]
    · by_cases e2 : (j : Int) = i
      · have e3 : j = i.toNat := by omega
        rw [hlo j (by omega), e3, List.getElem?_set_self (by omega)]
        congr 1
        omega
      · rw [hhi j (by omega) (by omega)]
        congr 1
        omega
theorem held_loop (x : List Int) (sz : (x.length : Int) ≤ 140737488351232) (d : Nat) : ∀ (k : Nat) (a i : Int), 0 ≤ i → i ≤ x.length → (x.length : Int) - i = d → d < k → 0 ≤ a → a + d ≤ 1407374883512320 →
    (∀ j : Nat, i ≤ (j : Int) → (j : Int) < x.length → x[j]? = some (a + ((j : Int) - i))) → laws_heldIntS.l0 k x a i = some (a + d) := by
  induction d with
  | zero =>
    intro k a i h0 h1 hd hk a0 a1 hx
    obtain ⟨k, rfl⟩ : ∃ m, k = m + 1 := ⟨k - 1, by omega⟩
    simp only [laws_heldIntS.l0]
    rw [if_neg (by omega)]
    simp
  | succ d ih =>
    intro k a i h0 h1 hd hk a0 a1 hx
    obtain ⟨k, rfl⟩ : ∃ m, k = m + 1 := ⟨k - 1, by omega⟩
    have hr : rd x i = a := by
      have h2 := rd_get x i h0 (by omega)
      rw [hx i.toNat (by omega) (by omega)] at h2
      have h3 := Option.some.inj h2
      omega
    simp only [laws_heldIntS.l0]
    rw [if_pos (by omega), if_pos h0, if_pos hr, w64 (n := a + 1) (by omega) (by omega), w64 (n := i + 1) (by omega) (by omega)]
    rw [ih k (a + 1) (i + 1) (by omega) (by omega) (by omega) (by omega) (by omega) (by omega) (fun j h2 h3 => by rw [hx j (by omega) h3]; congr 1; omega)]
    congr 1
    omega
theorem mark_tells (l : List Int) (sz : (l.length : Int) ≤ 140737488351232) (a : Int) (a0 : 0 ≤ a) (a1 : a ≤ 140737488351232) : ∃ y, (∀ k, l.length < k → laws_markIntS.f k l a = some (a + l.length, y)) ∧ (∀ k, l.length < k → laws_heldIntS.f k y a = some (a + l.length)) ∧ y.length = l.length := by
  obtain ⟨y, e, hy, _, hhi⟩ := mark_loop l.length (l.length + 1) l a 0 (by omega) (by omega) (by omega) (by omega) sz a0 (by omega)
  refine ⟨y, fun k hk => ?_, fun k hk => ?_, hy⟩
  · exact at_rounds (fun k => laws_markIntS.mono l a k) (by omega : l.length + 1 ≤ k) e
  · unfold laws_heldIntS.f
    exact held_loop y (by omega) l.length k a 0 (by omega) (by omega) (by omega) hk a0 (by omega) (fun j h2 h3 => by rw [hhi j h2 (by omega)])
def wr (l : List Int) (a b : Int) : List Int := if 0 ≤ a ∧ a ≤ (l.length : Int) - 1 then l.set a.toNat b else l
theorem wr_len (l : List Int) (a b : Int) : (wr l a b).length = l.length := by unfold wr; split <;> simp
theorem FnExactWriteWord : laws_FnExactWriteWord.Pure := by
  intro l a b _ _ _ _
  by_cases c : (l.length : Int) > 1048576
  · exact ⟨0, by unfold laws_FnExactWriteWord.f; rw [if_pos c]⟩
  · have hT := toInt_tells l (by omega)
    have hE := eqInt_self l (by omega)
    obtain ⟨v, hv, hI, hS⟩ : ∃ v : List Int, v.length = l.length ∧ impl_WriteWord.f l a b = some v ∧ spec_WriteWord.f l a b = some v := by
      refine ⟨wr l a b, wr_len l a b, ?_, ?_⟩
      · unfold impl_WriteWord.f slices_Clone_int_int.f wr
        rw [if_pos (by omega)]
        simp only [Option.bind_some]
        rw [within_eq, w64 (by omega) (by omega)]
        simp only [Option.bind_some, decide_eq_true_eq]
        by_cases h : 0 ≤ a ∧ a ≤ (l.length : Int) - 1
        · rw [if_pos h, if_pos h, if_pos h.1, if_pos (by omega)]
        · rw [if_neg h, if_neg h]
      · unfold spec_WriteWord.f wr
        simp only [Option.bind_some, List.length_nil, List.nil_append]
        rw [if_pos (by omega)]
        rw [in_eq, w64 (by omega) (by omega)]
        simp only [Option.bind_some, decide_eq_true_eq]
        by_cases h : 0 ≤ a ∧ a ≤ (l.length : Int) - 1
        · rw [if_pos h, if_pos h, if_pos h.1, if_pos (by omega)]
        · rw [if_neg h, if_neg h]
    have hEv := eqInt_self v (by omega)
    obtain ⟨y1, hM1, _, _⟩ := mark_tells l (by omega) 1 (by omega) (by omega)
    obtain ⟨y2, hM2, hH2, _⟩ := mark_tells v (by omega) 1 (by omega) (by omega)
    have n1 : ¬ ((1 : Int) + (l.length : Int) < 0) := by omega
    have n2 : ¬ ((1 : Int) + (v.length : Int) < 0) := by omega
    obtain ⟨K, hK⟩ : ∃ K, l.length + 60 < K := ⟨_, Nat.lt_succ_self _⟩
    refine ⟨K + 3, ?_⟩
    unfold laws_FnExactWriteWord.f laws_toWrite.f
    rw [if_neg c, hT _ (by omega)]
    simp only [Option.bind_some]
    rw [hS, hI]
    simp only [Option.bind_some]
    rw [hEv _ (by omega)]
    simp only [Option.bind_some, if_true]
    rw [hE _ (by omega), hM1 _ (by omega)]
    simp only [Option.bind_some, if_true, if_neg n1, Bool.not_true]
    simp only [laws_FnExactWriteWord.j0, laws_toWrite.f, Bool.false_eq_true, if_false]
    rw [hM2 _ (by omega)]
    simp only [Option.bind_some]
    rw [hH2 _ (by omega)]
    simp only [Option.bind_some, if_neg n2, if_true]
    rw [hT _ (by omega)]
    simp only [Option.bind_some]
    rw [hI]
    simp only [Option.bind_some]
    rw [hEv _ (by omega)]
    simp only [Option.bind_some, if_true]

end Go.Proofs.Ytakejkdkchlanaa.Pure
