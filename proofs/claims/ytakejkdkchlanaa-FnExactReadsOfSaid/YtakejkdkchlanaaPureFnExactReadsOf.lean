/- The program's ReadsOf and the reference's return the same for every expression, each time in memory of its own; no condition. -/
import Derived.Test.YtakejkdkchlanaaPFnExactReadsOfx2
import Derived.Lib.SlicesCompact
namespace Go.Proofs.Ytakejkdkchlanaa.Pure
open Go.RowKit Go.Proofs.Ytakejkdkchlanaa.PFnExactReadsOf Go.Proofs.YtakejkdkchlanaaW.PrintWords Go.Proofs.YtakejkdkchlanaaW.PrintLast
set_option linter.unusedVariables false
set_option linter.unusedSimpArgs false

theorem w64 {n : Int} (h1 : -9223372036854775808 ≤ n) (h2 : n ≤ 9223372036854775807) : wrap64 n = n := by unfold wrap64; omega
theorem w64_in (n : Int) : -9223372036854775808 ≤ wrap64 n ∧ wrap64 n ≤ 9223372036854775807 := by unfold wrap64; omega
theorem wf64 {n : Int} (h : (Lit.int .i64 n).wf = true) : -9223372036854775808 ≤ n ∧ n ≤ 9223372036854775807 := by
  simp only [Lit.wf, IntKind.min, IntKind.max, IntKind.signed, IntKind.bits, Bool.and_eq_true, decide_eq_true_eq, if_true] at h
  omega
theorem wfu8 {n : Int} (h : (Lit.int .u8 n).wf = true) : 0 ≤ n ∧ n ≤ 255 := by
  simp [Lit.wf, IntKind.min, IntKind.max, IntKind.signed, IntKind.bits] at h
  omega
theorem and_in (x : Int) (m : Nat) (hm : m < 9223372036854775808) : 0 ≤ Go.bits .and .i64 x (m : Int) ∧ Go.bits .and .i64 x (m : Int) ≤ m := by
  have h1 : (BitVec.ofInt 64 x &&& BitVec.ofInt 64 (m : Int)).toNat ≤ m := by
    rw [BitVec.toNat_and]
    refine Nat.le_trans Nat.and_le_right ?_
    rw [BitVec.ofInt_natCast, BitVec.toNat_ofNat]
    exact Nat.mod_le _ _
  have h2 : Go.bits .and .i64 x (m : Int) = IntKind.i64.wrap (((BitVec.ofInt 64 x &&& BitVec.ofInt 64 (m : Int)).toNat : Nat) : Int) := rfl
  rw [h2, Go.IntKind.wrap_i64]
  omega
theorem and255 (x : Int) : 0 ≤ Go.bits .and .i64 x 255 ∧ Go.bits .and .i64 x 255 ≤ 255 := and_in x 255 (by decide)
theorem tmod_in (x n : Int) (h0 : 0 ≤ x) (h : 1 ≤ n) : 0 ≤ Int.tmod x n ∧ Int.tmod x n < n := ⟨Int.tmod_nonneg _ h0, Int.tmod_lt_of_pos _ (by omega)⟩
theorem in_eq (a b c : Int) : spec_l01In.f a b c = some (decide (b ≤ a ∧ a ≤ c)) := by
  unfold spec_l01In.f
  by_cases h : a ≥ b
  · rw [if_pos h]; simp; omega
  · rw [if_neg h]; simp; omega
theorem within_eq (a b c : Int) : impl_within.f a b c = some (decide (b ≤ a ∧ a ≤ c)) := by
  unfold impl_within.f
  by_cases h : a ≥ b
  · rw [if_pos h]; simp; omega
  · rw [if_neg h]; simp; omega
/-- A valid expression. -/
def eok (o a b : Int) : Bool := decide (1 ≤ o ∧ o ≤ 7) && (decide (-8 ≤ a ∧ a ≤ 999) && decide (-8 ≤ b ∧ b ≤ 999))
theorem iexpr (o a b : Int) : impl_ExprOk.f o a b = some (eok o a b) := by
  unfold impl_ExprOk.f impl_OperandOk.f eok
  simp only [within_eq, Option.bind_some]
  cases decide (1 ≤ o ∧ o ≤ 7) <;> cases decide (-8 ≤ a ∧ a ≤ 999) <;> simp
theorem eok_in {o a b : Int} (h : eok o a b = true) : (1 ≤ o ∧ o ≤ 7) ∧ (-8 ≤ a ∧ a ≤ 999) ∧ (-8 ≤ b ∧ b ≤ 999) := by
  unfold eok at h
  simp only [Bool.and_eq_true, decide_eq_true_eq] at h
  exact h
theorem sexpr (o a b : Int) : spec_ExprOk.f o a b = some (eok o a b) := by
  unfold spec_ExprOk.f spec_OperandOk.f eok
  simp only [in_eq, Option.bind_some]
  cases decide (1 ≤ o ∧ o ≤ 7) <;> cases decide (-8 ≤ a ∧ a ≤ 999) <;> simp
theorem asc_eq {a b : List Int} (ha : a.Pairwise (· < ·)) (hb : b.Pairwise (· < ·)) (h : ∀ x, x ∈ a ↔ x ∈ b) : a = b := by
  have na : a.Nodup := ha.imp (fun hlt => Int.ne_of_lt hlt)
  have nb : b.Nodup := hb.imp (fun hlt => Int.ne_of_lt hlt)
  have hp : a.Perm b := (List.perm_ext_iff_of_nodup na nb).2 h
  exact hp.eq_of_pairwise (fun x y _ _ h1 h2 => by omega) ha hb
theorem compactUpTo_asc (d : Array Int) (hs : ∀ i j, i ≤ j → j < d.size → d[i]! ≤ d[j]!) (m : Nat) (hm : m ≤ d.size) :
    (Lib.compactUpTo d m).Pairwise (· < ·) ∧ (∀ x, x ∈ Lib.compactUpTo d m ↔ ∃ j, j < m ∧ d[j]! = x) := by
  induction m with
  | zero => exact ⟨by simp [Lib.compactUpTo], by simp [Lib.compactUpTo]⟩
  | succ m ih =>
    obtain ⟨h1, h2⟩ := ih (by omega)
    rw [Lib.compactUpTo_succ]
    cases hk : Lib.keeps d m with
    | true =>
      simp only [if_true]
      refine ⟨?_, fun x => ?_⟩
      · rw [List.pairwise_append]
        refine ⟨h1, by simp, fun x hx y hy => ?_⟩
        rw [List.mem_singleton] at hy
        subst hy
        obtain ⟨j, hj, rfl⟩ := (h2 x).1 hx
        have hle1 := hs j (m - 1) (by omega) (by omega)
        have hle2 := hs (m - 1) m (by omega) (by omega)
        have hne : m = 0 ∨ d[m]! ≠ d[m - 1]! := by
          unfold Lib.keeps at hk
          exact of_decide_eq_true hk
        rcases hne with h | h
        · omega
        · omega
      · rw [List.mem_append, h2, List.mem_singleton]
        constructor
        · rintro (⟨j, hj, rfl⟩ | rfl)
          · exact ⟨j, by omega, rfl⟩
          · exact ⟨m, by omega, rfl⟩
        · rintro ⟨j, hj, rfl⟩
          by_cases e : j = m
          · subst e; exact .inr rfl
          · exact .inl ⟨j, by omega, rfl⟩
    | false =>
      simp only [Bool.false_eq_true, if_false, List.append_nil]
      refine ⟨h1, fun x => ?_⟩
      rw [h2]
      have hd : ¬ (m = 0 ∨ d[m]! ≠ d[m - 1]!) := by
        unfold Lib.keeps at hk
        exact of_decide_eq_false hk
      have hm0 : m ≠ 0 := fun e => hd (.inl e)
      have he : d[m]! = d[m - 1]! := by
        by_cases e : d[m]! = d[m - 1]!
        · exact e
        · exact absurd (.inr e) hd
      constructor
      · rintro ⟨j, hj, rfl⟩
        exact ⟨j, by omega, rfl⟩
      · rintro ⟨j, hj, rfl⟩
        by_cases e : j = m
        · subst e; exact ⟨j - 1, by omega, he.symm⟩
        · exact ⟨j, by omega, rfl⟩
/-- Sorted and compacted: each element once, ascending. -/
theorem sortc (l : List Int) : (Lib.compact (l.mergeSort fun x y => decide (x ≤ y))).Pairwise (· < ·) ∧ ∀ x, x ∈ Lib.compact (l.mergeSort fun x y => decide (x ≤ y)) ↔ x ∈ l := by
  have hp : (l.mergeSort fun x y => decide (x ≤ y)).Perm l := List.mergeSort_perm _ _
  have hs := List.pairwise_mergeSort (le := fun (x y : Int) => decide (x ≤ y)) (by intro a b c h1 h2; simp at *; omega) (by intro a b; simp; omega) l
  generalize (l.mergeSort fun x y => decide (x ≤ y)) = s at hp hs
  have hidx : ∀ i j, i ≤ j → j < s.toArray.size → s.toArray[i]! ≤ s.toArray[j]! := by
    intro i j hij hj
    have hj' : j < s.length := by simpa using hj
    have e1 : s.toArray[i]! = s[i]'(by omega) := by simp [getElem!_pos, show i < s.length by omega]
    have e2 : s.toArray[j]! = s[j]'hj' := by simp [getElem!_pos, hj']
    rw [e1, e2]
    by_cases e : i = j
    · subst e; exact Int.le_refl _
    · have := List.pairwise_iff_getElem.1 hs i j (by omega) hj' (by omega)
      exact of_decide_eq_true this
  obtain ⟨h1, h2⟩ := compactUpTo_asc s.toArray hidx s.length (by simp)
  refine ⟨h1, fun x => ?_⟩
  rw [← hp.mem_iff]
  unfold Lib.compact
  rw [h2]
  constructor
  · rintro ⟨j, hj, rfl⟩
    have e1 : s.toArray[j]! = s[j]'hj := by simp [getElem!_pos, hj]
    rw [e1]
    exact List.getElem_mem hj
  · intro hx
    obtain ⟨j, hj, rfl⟩ := List.mem_iff_getElem.1 hx
    exact ⟨j, hj, by simp [getElem!_pos, hj]⟩
/-- The variables, ascending, that are operands. -/
def hit (a b : Int) (i : Nat) : Bool := decide (a = -1 - (i : Int)) || decide (b = -1 - (i : Int))
def rds (o a b : Int) : List Int := if eok o a b = true then ((List.range 8).filter (hit a b)).map (fun i : Nat => (i : Int)) else []
theorem asc_range (p : Nat → Bool) (n : Nat) : (((List.range n).filter p).map (fun i : Nat => (i : Int))).Pairwise (· < ·) := by
  rw [List.pairwise_map]
  exact (List.pairwise_lt_range.filter p).imp (fun h => by omega)
theorem mem_rds {o a b : Int} (h : eok o a b = true) (x : Int) : x ∈ rds o a b ↔ 0 ≤ x ∧ x < 8 ∧ (a = -1 - x ∨ b = -1 - x) := by
  unfold rds
  rw [if_pos h]
  simp only [List.mem_map, List.mem_filter, List.mem_range, hit, Bool.or_eq_true, decide_eq_true_eq]
  constructor
  · rintro ⟨i, ⟨hi, hh⟩, rfl⟩
    exact ⟨by omega, by omega, hh⟩
  · rintro ⟨h0, h1, hh⟩
    exact ⟨x.toNat, ⟨by omega, by rw [Int.toNat_of_nonneg h0]; exact hh⟩, by omega⟩
theorem ireads (o a b : Int) (k : Nat) (hk : 3 ≤ k) : impl_ReadsOf.f k o a b = some (rds o a b) := by
  obtain ⟨k, rfl⟩ : ∃ m, k = m + 3 := ⟨k - 3, by omega⟩
  unfold impl_ReadsOf.f
  rw [iexpr]
  simp only [Option.bind_some]
  by_cases h : eok o a b = true
  · rw [if_pos h]
    obtain ⟨_, ha, hb⟩ := eok_in h
    have ra : rd [a, b] 0 = a := rfl
    have rb : rd [a, b] 1 = b := rfl
    have hfin : ∀ l : List Int, l.length ≤ 2 → (∀ x, x ∈ l ↔ (a < 0 ∧ x = -1 - a) ∨ (b < 0 ∧ x = -1 - b)) → ((slices_Sort_int_int.f l).bind fun t => ((slices_Compact_int_int.f t).bind fun t => some t)) = some (rds o a b) := by
      intro l hl hm
      obtain ⟨h1, h2⟩ := sortc l
      unfold slices_Sort_int_int.f
      rw [if_pos (by omega)]
      simp only [Option.bind_some]
      unfold slices_Compact_int_int.f
      rw [if_pos (by rw [List.length_mergeSort]; omega)]
      simp only [Option.bind_some]
      congr 1
      refine asc_eq h1 (by unfold rds; rw [if_pos h]; exact asc_range _ _) (fun x => ?_)
      rw [h2, hm, mem_rds h]
      omega
    have w1 : wrap64 (-1 - a) = -1 - a := w64 (by omega) (by omega)
    have w2 : wrap64 (-1 - b) = -1 - b := w64 (by omega) (by omega)
    have w3 : wrap64 (0 + 1) = 1 := by rw [w64 (by omega) (by omega)]; rfl
    have w4 : wrap64 (1 + 1) = 2 := by rw [w64 (by omega) (by omega)]; rfl
    have w5 : wrap64 1 = 1 := w64 (by omega) (by omega)
    have w6 : wrap64 2 = 2 := w64 (by omega) (by omega)
    have l0 : (0 : Int) < (([a, b] : List Int).length : Int) := by simp
    have l1 : (1 : Int) < (([a, b] : List Int).length : Int) := by simp
    have l2 : ¬ (2 : Int) < (([a, b] : List Int).length : Int) := by simp
    have g1 : (0 : Int) ≤ 1 := by decide
    have g0 : (0 : Int) ≤ 0 := by decide
    by_cases ca : a < 0
    · by_cases cb : b < 0
      · simp only [impl_ReadsOf.l0, if_pos l0, if_pos l1, if_neg l2, if_pos g0, if_pos g1, ra, rb, if_pos ca, if_pos cb, w1, w2, w3, w4, w5, w6]
        rw [if_pos (by simp), if_pos (by simp)]
        exact hfin _ (by simp) (fun x => by simp; omega)
      · simp only [impl_ReadsOf.l0, if_pos l0, if_pos l1, if_neg l2, if_pos g0, if_pos g1, ra, rb, if_pos ca, if_neg cb, w1, w3, w4, w5, w6]
        rw [if_pos (by simp)]
        exact hfin _ (by simp) (fun x => by simp; omega)
    · by_cases cb : b < 0
      · simp only [impl_ReadsOf.l0, if_pos l0, if_pos l1, if_neg l2, if_pos g0, if_pos g1, ra, rb, if_neg ca, if_pos cb, w2, w3, w4, w5, w6]
        rw [if_pos (by simp)]
        exact hfin _ (by simp) (fun x => by simp; omega)
      · simp only [impl_ReadsOf.l0, if_pos l0, if_pos l1, if_neg l2, if_pos g0, if_pos g1, ra, rb, if_neg ca, if_neg cb, w3, w4, w5, w6]
        exact hfin _ (by simp) (fun x => by simp; omega)
  · rw [if_neg h]
    unfold rds
    rw [if_neg h]
theorem sreads_loop (o a b : Int) (h : eok o a b = true) (d : Nat) : ∀ (k : Nat) (acc : List Int) (i : Nat), i + d = 8 → 2 * d + 1 < k → acc.length ≤ i →
    spec_ReadsOf.l0 k acc (i : Int) o a b = some (acc ++ ((List.range' i d).filter (hit a b)).map (fun i : Nat => (i : Int))) := by
  induction d with
  | zero =>
    intro k acc i hi hk hl
    obtain ⟨k, rfl⟩ : ∃ m, k = m + 2 := ⟨k - 2, by omega⟩
    simp only [spec_ReadsOf.l0, spec_ReadsOf.j1]
    rw [if_neg (by omega)]
    simp
  | succ d ih =>
    intro k acc i hi hk hl
    obtain ⟨k, rfl⟩ : ∃ m, k = m + 2 := ⟨k - 2, by omega⟩
    simp only [spec_ReadsOf.l0, spec_ReadsOf.j1]
    rw [if_pos (by omega), sexpr]
    simp only [Option.bind_some]
    rw [if_pos h, w64 (n := -1 - (i : Int)) (by omega) (by omega), w64 (n := (i : Int) + 1) (by omega) (by omega)]
    have e1 : (i : Int) + 1 = ((i + 1 : Nat) : Int) := by omega
    rw [e1, List.range'_succ, List.filter_cons]
    by_cases ca : a = -1 - (i : Int)
    · have hh : hit a b i = true := by unfold hit; simp [ca]
      rw [if_pos ca, if_pos (by omega), ih k _ (i + 1) (by omega) (by omega) (by simp; omega), if_pos hh]
      simp
    · rw [if_neg ca]
      by_cases cb : b = -1 - (i : Int)
      · have hh : hit a b i = true := by unfold hit; simp [cb]
        rw [if_pos cb, if_pos (by omega), ih k _ (i + 1) (by omega) (by omega) (by simp; omega), if_pos hh]
        simp
      · have hh : ¬ hit a b i = true := by unfold hit; simp [ca, cb]
        rw [if_neg cb, ih k _ (i + 1) (by omega) (by omega) (by omega), if_neg hh]
theorem sreads (o a b : Int) (k : Nat) (hk : 18 ≤ k) : spec_ReadsOf.f k o a b = some (rds o a b) := by
  unfold spec_ReadsOf.f
  by_cases h : eok o a b = true
  · have e := sreads_loop o a b h 8 k [] 0 (by omega) (by omega) (by simp)
    unfold rds
    rw [if_pos h, List.range_eq_range']
    simpa using e
  · obtain ⟨k, rfl⟩ : ∃ m, k = m + 2 := ⟨k - 2, by omega⟩
    simp only [spec_ReadsOf.l0, spec_ReadsOf.j1]
    rw [if_pos (by omega), sexpr]
    simp only [Option.bind_some]
    unfold rds
    rw [if_neg h, if_neg h]
theorem rd_get (xs : List Int) (i : Int) (h0 : 0 ≤ i) (h1 : i < (xs.length : Int)) : xs[i.toNat]? = some (rd xs i) := by
  have h : i.toNat < xs.length := by omega
  unfold Go.Proofs.YtakejkdkchlanaaW.PrintWords.rd
  rw [List.getD_eq_getElem?_getD, List.getElem?_eq_getElem h]
  rfl
theorem eqInt_loop (l : List Int) (sz : (l.length : Int) ≤ 140737488351232) (d : Nat) : ∀ (k : Nat) (i : Int), 0 ≤ i → i ≤ l.length → (l.length : Int) - i = d → d < k → laws_eqIntS.l0 k l l i = some true := by
  induction d with
  | zero =>
    intro k i h0 h1 hd hk
    obtain ⟨k, rfl⟩ : ∃ m, k = m + 1 := ⟨k - 1, by omega⟩
    simp only [laws_eqIntS.l0]
    rw [if_neg (by omega)]
  | succ d ih =>
    intro k i h0 h1 hd hk
    obtain ⟨k, rfl⟩ : ∃ m, k = m + 1 := ⟨k - 1, by omega⟩
    simp only [laws_eqIntS.l0]
    rw [if_pos (by omega), if_pos h0, if_pos (by omega), if_pos trivial, w64 (n := i + 1) (by omega) (by omega)]
    exact ih k (i + 1) (by omega) (by omega) (by omega) (by omega)
theorem eqInt_self (l : List Int) (sz : (l.length : Int) ≤ 140737488351232) : ∀ k, l.length < k → laws_eqIntS.f k l l = some true := by
  intro k hk
  unfold laws_eqIntS.f
  rw [if_pos rfl]
  exact eqInt_loop l sz l.length k 0 (by omega) (by omega) (by omega) hk
theorem mark_loop (d : Nat) : ∀ (k : Nat) (x : List Int) (a i : Int), 0 ≤ i → i ≤ x.length → (x.length : Int) - i = d → d < k → (x.length : Int) ≤ 140737488351232 → 0 ≤ a → a + d ≤ 1407374883512320 →
    ∃ y, laws_markIntS.l0 k x a i = some (a + d, y) ∧ y.length = x.length ∧ (∀ j : Nat, (j : Int) < i → y[j]? = x[j]?) ∧ ∀ j : Nat, i ≤ (j : Int) → (j : Int) < x.length → y[j]? = some (a + ((j : Int) - i)) := by
  induction d with
  | zero =>
    intro k x a i h0 h1 hd hk sz a0 a1
    obtain ⟨k, rfl⟩ : ∃ m, k = m + 1 := ⟨k - 1, by omega⟩
    refine ⟨x, ?_, rfl, fun _ _ => rfl, fun j h2 h3 => by omega⟩
    simp only [laws_markIntS.l0]
    rw [if_neg (by omega)]
    simp
  | succ d ih =>
    intro k x a i h0 h1 hd hk sz a0 a1
    obtain ⟨k, rfl⟩ : ∃ m, k = m + 1 := ⟨k - 1, by omega⟩
    have hl : (x.set i.toNat a).length = x.length := List.length_set
    obtain ⟨y, e, hy, hlo, hhi⟩ := ih k (x.set i.toNat a) (a + 1) (i + 1) (by omega) (by omega) (by omega) (by omega) (by omega) (by omega) (by omega)
    refine ⟨y, ?_, by omega, fun j hj => ?_, fun j hj hj2 => ?_⟩
    · simp only [laws_markIntS.l0]
      rw [if_pos (by omega), if_pos h0, w64 (n := a + 1) (by omega) (by omega), w64 (n := i + 1) (by omega) (by omega), e]
      congr 2
      omega
    · rw [hlo j (by omega), List.getElem?_set_ne (by omega)]
    · by_cases e2 : (j : Int) = i
      · have e3 : j = i.toNat := by omega
        rw [hlo j (by omega), e3, List.getElem?_set_self (by omega)]
        congr 1
        omega
      · rw [hhi j (by omega) (by omega)]
        congr 1
        omega
theorem held_loop (x : List Int) (sz : (x.length : Int) ≤ 140737488351232) (d : Nat) : ∀ (k : Nat) (a i : Int), 0 ≤ i → i ≤ x.length → (x.length : Int) - i = d → d < k → 0 ≤ a → a + d ≤ 1407374883512320 →
    (∀ j : Nat, i ≤ (j : Int) → (j : Int) < x.length → x[j]? = some (a + ((j : Int) - i))) → laws_heldIntS.l0 k x a i = some (a + d) := by
  induction d with
  | zero =>
    intro k a i h0 h1 hd hk a0 a1 hx
    obtain ⟨k, rfl⟩ : ∃ m, k = m + 1 := ⟨k - 1, by omega⟩
    simp only [laws_heldIntS.l0]
    rw [if_neg (by omega)]
    simp
  | succ d ih =>
    intro k a i h0 h1 hd hk a0 a1 hx
    obtain ⟨k, rfl⟩ : ∃ m, k = m + 1 := ⟨k - 1, by omega⟩
    have hr : rd x i = a := by
      have h2 := rd_get x i h0 (by omega)
      rw [hx i.toNat (by omega) (by omega)] at h2
      have h3 := Option.some.inj h2
      omega
    simp only [laws_heldIntS.l0]
    rw [if_pos (by omega), if_pos h0, if_pos hr, w64 (n := a + 1) (by omega) (by omega), w64 (n := i + 1) (by omega) (by omega)]
    rw [ih k (a + 1) (i + 1) (by omega) (by omega) (by omega) (by omega) (by omega) (by omega) (fun j h2 h3 => by rw [hx j (by omega) h3]; congr 1; omega)]
    congr 1
    omega
theorem mark_tells (l : List Int) (sz : (l.length : Int) ≤ 140737488351232) (a : Int) (a0 : 0 ≤ a) (a1 : a ≤ 140737488351232) : ∃ y, (∀ k, l.length < k → laws_markIntS.f k l a = some (a + l.length, y)) ∧ (∀ k, l.length < k → laws_heldIntS.f k y a = some (a + l.length)) ∧ y.length = l.length := by
  obtain ⟨y, e, hy, _, hhi⟩ := mark_loop l.length (l.length + 1) l a 0 (by omega) (by omega) (by omega) (by omega) sz a0 (by omega)
  refine ⟨y, fun k hk => ?_, fun k hk => ?_, hy⟩
  · exact at_rounds (fun k => laws_markIntS.mono l a k) (by omega : l.length + 1 ≤ k) e
  · unfold laws_heldIntS.f
    exact held_loop y (by omega) l.length k a 0 (by omega) (by omega) (by omega) hk a0 (by omega) (fun j h2 h3 => by rw [hhi j h2 (by omega)])
theorem rds_len (o a b : Int) : (rds o a b).length ≤ 8 := by
  unfold rds
  by_cases h : eok o a b = true
  · rw [if_pos h, List.length_map]
    exact Nat.le_trans (List.length_filter_le _ _) (by simp)
  · rw [if_neg h]; simp
theorem FnExactReadsOf : laws_FnExactReadsOf.Pure := by
  intro o a b _ _ _
  refine ⟨30, ?_⟩
  have hl := rds_len o a b
  have hE := eqInt_self (rds o a b) (by omega)
  obtain ⟨y, hM, hH, _⟩ := mark_tells (rds o a b) (by omega) 1 (by omega) (by omega)
  have n1 : ¬ ((1 : Int) + ((rds o a b).length : Int) < 0) := by omega
  unfold laws_FnExactReadsOf.f laws_toExpr.f
  simp only [Option.bind_some]
  rw [sreads o a b 30 (by omega), ireads o a b 30 (by omega)]
  simp only [Option.bind_some]
  rw [hE _ (by omega), hM _ (by omega)]
  simp only [Option.bind_some, if_true]
  rw [hH _ (by omega)]
  simp only [Option.bind_some, if_neg n1, if_true]

end Go.Proofs.Ytakejkdkchlanaa.Pure
