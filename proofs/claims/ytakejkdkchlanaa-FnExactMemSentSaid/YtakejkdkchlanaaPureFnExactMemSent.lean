/- The program's MemSent and the reference's return the same for every slice, in memory of their own, and leave the slice as it was; no condition. -/
import Derived.Test.YtakejkdkchlanaaPFnExactMemSentx2
namespace Go.Proofs.Ytakejkdkchlanaa.Pure
open Go.RowKit Go.Proofs.Ytakejkdkchlanaa.PFnExactMemSent Go.Proofs.YtakejkdkchlanaaW.PrintWords Go.Proofs.YtakejkdkchlanaaW.PrintLast

theorem w64 {n : Int} (h1 : -9223372036854775808 ≤ n) (h2 : n ≤ 9223372036854775807) : wrap64 n = n := by unfold wrap64; omega
theorem w64_in (n : Int) : -9223372036854775808 ≤ wrap64 n ∧ wrap64 n ≤ 9223372036854775807 := by unfold wrap64; omega
theorem wf64 {n : Int} (h : (Lit.int .i64 n).wf = true) : -9223372036854775808 ≤ n ∧ n ≤ 9223372036854775807 := by
  simp only [Lit.wf, IntKind.min, IntKind.max, IntKind.signed, IntKind.bits, Bool.and_eq_true, decide_eq_true_eq, if_true] at h
  omega
theorem wfu8 {n : Int} (h : (Lit.int .u8 n).wf = true) : 0 ≤ n ∧ n ≤ 255 := by
  simp [Lit.wf, IntKind.min, IntKind.max, IntKind.signed, IntKind.bits] at h
  omega
theorem and_in (x : Int) (m : Nat) (hm : m < 9223372036854775808) : 0 ≤ Go.bits .and .i64 x (m : Int) ∧ Go.bits .and .i64 x (m : Int) ≤ m := by
  have h1 : (BitVec.ofInt 64 x &&& BitVec.ofInt 64 (m : Int)).toNat ≤ m := by
    rw [BitVec.toNat_and]
    refine Nat.le_trans Nat.and_le_right ?_
    rw [BitVec.ofInt_natCast, BitVec.toNat_ofNat]
    exact Nat.mod_le _ _
  have h2 : Go.bits .and .i64 x (m : Int) = IntKind.i64.wrap (((BitVec.ofInt 64 x &&& BitVec.ofInt 64 (m : Int)).toNat : Nat) : Int) := rfl
  rw [h2, Go.IntKind.wrap_i64]
  omega
theorem and255 (x : Int) : 0 ≤ Go.bits .and .i64 x 255 ∧ Go.bits .and .i64 x 255 ≤ 255 := and_in x 255 (by decide)
theorem tmod_in (x n : Int) (h0 : 0 ≤ x) (h : 1 ≤ n) : 0 ≤ Int.tmod x n ∧ Int.tmod x n < n := ⟨Int.tmod_nonneg _ h0, Int.tmod_lt_of_pos _ (by omega)⟩
theorem in_eq (a b c : Int) : spec_l01In.f a b c = some (decide (b ≤ a ∧ a ≤ c)) := by
  unfold spec_l01In.f
  by_cases h : a ≥ b
  · rw [if_pos h]; simp; omega
  · rw [if_neg h]; simp; omega
theorem within_eq (a b c : Int) : impl_within.f a b c = some (decide (b ≤ a ∧ a ≤ c)) := by
  unfold impl_within.f
  by_cases h : a ≥ b
  · rw [if_pos h]; simp; omega
  · rw [if_neg h]; simp; omega
theorem pack_eq (a b c : Int) : impl_PackControl.f a b c = some (if 0 ≤ a ∧ a ≤ 5 ∧ 0 ≤ b ∧ b ≤ 8 ∧ 0 ≤ c ∧ c ≤ 24 then a + 8 * (b + 16 * c) else -1) := by
  unfold impl_PackControl.f
  simp only [within_eq, Option.bind_some, decide_eq_true_eq]
  by_cases h1 : 0 ≤ a ∧ a ≤ 5
  · rw [if_pos h1]
    by_cases h2 : 0 ≤ b ∧ b ≤ 8
    · rw [if_pos h2]
      by_cases h3 : 0 ≤ c ∧ c ≤ 24
      · rw [if_pos h3, if_pos (by omega)]
        congr 1
        rw [w64 (n := 16 * c) (by omega) (by omega), w64 (n := b + 16 * c) (by omega) (by omega), w64 (n := 8 * (b + 16 * c)) (by omega) (by omega), w64 (by omega) (by omega)]
      · rw [if_neg h3, if_neg (by omega)]
    · rw [if_neg h2, if_neg (by omega)]
  · rw [if_neg h1, if_neg (by omega)]
/-- What a word holds, as numbers: nothing (three times -1) where it is no word. -/
def unp (w : Int) : Int × Int × Int := if 0 ≤ w ∧ w % 8 ≤ 5 ∧ w / 8 % 16 ≤ 8 ∧ w / 128 ≤ 24 then (w % 8, w / 8 % 16, w / 128) else (-1, -1, -1)
theorem unpack_eq (w : Int) (hw : w ≤ 9223372036854775807) : impl_UnpackControl.f w = some (unp w) := by
  unfold impl_UnpackControl.f unp
  by_cases h : w < 0
  · rw [if_pos h, if_neg (by omega)]
  · rw [if_neg h]
    rw [Int.tmod_eq_emod_of_nonneg (by omega : 0 ≤ w), Int.tdiv_eq_ediv_of_nonneg (by omega : 0 ≤ w), Int.tdiv_eq_ediv_of_nonneg (by omega : 0 ≤ w)]
    rw [w64 (n := w / 8) (by omega) (by omega), w64 (n := w / 128) (by omega) (by omega)]
    rw [Int.tmod_eq_emod_of_nonneg (by omega : 0 ≤ w / 8)]
    rw [pack_eq]
    simp only [Option.bind_some]
    by_cases c : 0 ≤ w ∧ w % 8 ≤ 5 ∧ w / 8 % 16 ≤ 8 ∧ w / 128 ≤ 24
    · rw [if_pos (by omega : 0 ≤ w % 8 ∧ w % 8 ≤ 5 ∧ 0 ≤ w / 8 % 16 ∧ w / 8 % 16 ≤ 8 ∧ 0 ≤ w / 128 ∧ w / 128 ≤ 24), if_pos c, if_pos (by omega)]
    · rw [if_neg c, if_neg (by omega)]
theorem spack_eq (a b c : Int) : spec_PackControl.f a b c = impl_PackControl.f a b c := by
  unfold spec_PackControl.f impl_PackControl.f
  simp only [in_eq, within_eq]
theorem sunpack_eq (w : Int) (hb : w ≤ 9223372036854775807) (k : Nat) (hk : 1 ≤ k) : spec_UnpackControl.f k w = some (unp w) := by
  obtain ⟨k, rfl⟩ : ∃ m, k = m + 1 := ⟨k - 1, by omega⟩
  unfold spec_UnpackControl.f
  by_cases h : w < 0
  · rw [if_pos h]; unfold unp; rw [if_neg (by omega)]; simp [spec_UnpackControl.j0]
  · rw [if_neg h]
    simp only [spec_UnpackControl.j0]
    by_cases h2 : w > 100000
    · rw [if_pos (by simp; omega)]; unfold unp; rw [if_neg (by omega)]
    · rw [if_neg (by simp; omega), spack_eq, ← unpack_eq w hb]
      unfold impl_UnpackControl.f
      rw [if_neg h]
theorem unp_in (w : Int) : (unp w).1 ≤ 5 ∧ (unp w).2.1 ≤ 8 ∧ (unp w).2.2 ≤ 24 := by
  unfold unp
  by_cases c : 0 ≤ w ∧ w % 8 ≤ 5 ∧ w / 8 % 16 ≤ 8 ∧ w / 128 ≤ 24
  · rw [if_pos c]; exact c.2
  · rw [if_neg c]; decide
theorem rd_get (xs : List Int) (i : Int) (h0 : 0 ≤ i) (h1 : i < (xs.length : Int)) : xs[i.toNat]? = some (rd xs i) := by
  have h : i.toNat < xs.length := by omega
  unfold Go.Proofs.YtakejkdkchlanaaW.PrintWords.rd
  rw [List.getD_eq_getElem?_getD, List.getElem?_eq_getElem h]
  rfl
theorem toInt_loop (l : List Int) (sz : (l.length : Int) ≤ 140737488351232) (d : Nat) : ∀ (k : Nat) (x : List Int) (i : Int), 0 ≤ i → i ≤ l.length → (l.length : Int) - i = d → d < k → x.length = l.length → (∀ j : Nat, (j : Int) < i → x[j]? = l[j]?) →
    laws_toIntS.l0 k l x i = some l := by
  induction d with
  | zero =>
    intro k x i h0 h1 hd hk hl hx
    obtain ⟨k, rfl⟩ : ∃ m, k = m + 1 := ⟨k - 1, by omega⟩
    simp only [laws_toIntS.l0]
    rw [if_neg (by omega)]
    congr 1
    apply List.ext_getElem?
    intro j
    by_cases hj : (j : Int) < i
    · exact hx j hj
    · rw [List.getElem?_eq_none (by omega), List.getElem?_eq_none (by omega)]
  | succ d ih =>
    intro k x i h0 h1 hd hk hl hx
    obtain ⟨k, rfl⟩ : ∃ m, k = m + 1 := ⟨k - 1, by omega⟩
    simp only [laws_toIntS.l0]
    rw [if_pos (by omega), if_pos h0, if_pos (by omega), w64 (n := i + 1) (by omega) (by omega)]
    refine ih k _ (i + 1) (by omega) (by omega) (by omega) (by omega) (by simp [hl]) ?_
    intro j hj
    by_cases e : (j : Int) = i
    · have e2 : j = i.toNat := by omega
      subst e2
      rw [rd_get l i h0 (by omega), List.getElem?_set_self (by omega)]
    · rw [List.getElem?_set_ne (by omega)]
      exact hx j (by omega)
theorem toInt_tells (l : List Int) (h : (l.length : Int) ≤ 1048576) : ∀ k, l.length < k → laws_toIntS.f k l = some l := by
  intro k hk
  unfold laws_toIntS.f
  rw [if_pos (by omega), if_pos (by omega)]
  exact toInt_loop l (by omega) l.length k _ 0 (by omega) (by omega) (by omega) hk (by simp) (fun j hj => by omega)
theorem eqInt_loop (l : List Int) (sz : (l.length : Int) ≤ 140737488351232) (d : Nat) : ∀ (k : Nat) (i : Int), 0 ≤ i → i ≤ l.length → (l.length : Int) - i = d → d < k → laws_eqIntS.l0 k l l i = some true := by
  induction d with
  | zero =>
    intro k i h0 h1 hd hk
    obtain ⟨k, rfl⟩ : ∃ m, k = m + 1 := ⟨k - 1, by omega⟩
    simp only [laws_eqIntS.l0]
    rw [if_neg (by omega)]
  | succ d ih =>
    intro k i h0 h1 hd hk
    obtain ⟨k, rfl⟩ : ∃ m, k = m + 1 := ⟨k - 1, by omega⟩
    simp only [laws_eqIntS.l0]
    rw [if_pos (by omega), if_pos h0, if_pos (by omega), if_pos trivial, w64 (n := i + 1) (by omega) (by omega)]
    exact ih k (i + 1) (by omega) (by omega) (by omega) (by omega)
theorem eqInt_self (l : List Int) (sz : (l.length : Int) ≤ 140737488351232) : ∀ k, l.length < k → laws_eqIntS.f k l l = some true := by
  intro k hk
  unfold laws_eqIntS.f
  rw [if_pos rfl]
  exact eqInt_loop l sz l.length k 0 (by omega) (by omega) (by omega) hk
theorem mark_loop (d : Nat) : ∀ (k : Nat) (x : List Int) (a i : Int), 0 ≤ i → i ≤ x.length → (x.length : Int) - i = d → d < k → (x.length : Int) ≤ 140737488351232 → 0 ≤ a → a + d ≤ 1407374883512320 →
    ∃ y, laws_markIntS.l0 k x a i = some (a + d, y) ∧ y.length = x.length ∧ (∀ j : Nat, (j : Int) < i → y[j]? = x[j]?) ∧ ∀ j : Nat, i ≤ (j : Int) → (j : Int) < x.length → y[j]? = some (a + ((j : Int) - i)) := by
  induction d with
  | zero =>
    intro k x a i h0 h1 hd hk sz a0 a1
    obtain ⟨k, rfl⟩ : ∃ m, k = m + 1 := ⟨k - 1, by omega⟩
    refine ⟨x, ?_, rfl, fun _ _ => rfl, fun j h2 h3 => by omega⟩
    simp only [laws_markIntS.l0]
    rw [if_neg (by omega)]
    simp
  | succ d ih =>
    intro k x a i h0 h1 hd hk sz a0 a1
    obtain ⟨k, rfl⟩ : ∃ m, k = m + 1 := ⟨k - 1, by omega⟩
    have hl : (x.set i.toNat a).length = x.length := List.length_set
    obtain ⟨y, e, hy, hlo, hhi⟩ := ih k (x.set i.toNat a) (a + 1) (i + 1) (by omega) (by omega) (by omega) (by omega) (by omega) (by omega) (by omega)
    refine ⟨y, ?_, by omega, fun j hj => ?_, fun j hj hj2 => ?_⟩
    · simp only [laws_markIntS.l0]
      rw [if_pos (by omega), if_pos h0, w64 (n := a + 1) (by omega) (by omega), w64 (n := i + 1) (by omega) (by omega), e]
      congr 2
      omega
    · rw [hlo j (by omega), List.getElem?_set_ne (by omega)]
    · by_cases e2 : (j : Int) = i
      · have e3 : j = i.toNat := by omega
        rw [hlo j (by omega), e3, List.getElem?_set_self (by omega)]
        congr 1
        omega
      · rw [hhi j (by omega) (by omega)]
        congr 1
        omega
theorem held_loop (x : List Int) (sz : (x.length : Int) ≤ 140737488351232) (d : Nat) : ∀ (k : Nat) (a i : Int), 0 ≤ i → i ≤ x.length → (x.length : Int) - i = d → d < k → 0 ≤ a → a + d ≤ 1407374883512320 →
    (∀ j : Nat, i ≤ (j : Int) → (j : Int) < x.length → x[j]? = some (a + ((j : Int) - i))) → laws_heldIntS.l0 k x a i = some (a + d) := by
  induction d with
  | zero =>
    intro k a i h0 h1 hd hk a0 a1 hx
    obtain ⟨k, rfl⟩ : ∃ m, k = m + 1 := ⟨k - 1, by omega⟩
    simp only [laws_heldIntS.l0]
    rw [if_neg (by omega)]
    simp
  | succ d ih =>
    intro k a i h0 h1 hd hk a0 a1 hx
    obtain ⟨k, rfl⟩ : ∃ m, k = m + 1 := ⟨k - 1, by omega⟩
    have hr : rd x i = a := by
      have h2 := rd_get x i h0 (by omega)
      rw [hx i.toNat (by omega) (by omega)] at h2
      have h3 := Option.some.inj h2
      omega
    simp only [laws_heldIntS.l0]
    rw [if_pos (by omega), if_pos h0, if_pos hr, w64 (n := a + 1) (by omega) (by omega), w64 (n := i + 1) (by omega) (by omega)]
    rw [ih k (a + 1) (i + 1) (by omega) (by omega) (by omega) (by omega) (by omega) (by omega) (fun j h2 h3 => by rw [hx j (by omega) h3]; congr 1; omega)]
    congr 1
    omega
theorem mark_tells (l : List Int) (sz : (l.length : Int) ≤ 140737488351232) (a : Int) (a0 : 0 ≤ a) (a1 : a ≤ 140737488351232) : ∃ y, (∀ k, l.length < k → laws_markIntS.f k l a = some (a + l.length, y)) ∧ (∀ k, l.length < k → laws_heldIntS.f k y a = some (a + l.length)) ∧ y.length = l.length := by
  obtain ⟨y, e, hy, _, hhi⟩ := mark_loop l.length (l.length + 1) l a 0 (by omega) (by omega) (by omega) (by omega) sz a0 (by omega)
  refine ⟨y, fun k hk => ?_, fun k hk => ?_, hy⟩
  · exact at_rounds (fun k => laws_markIntS.mono l a k) (by omega : l.length + 1 ≤ k) e
  · unfold laws_heldIntS.f
    exact held_loop y (by omega) l.length k a 0 (by omega) (by omega) (by omega) hk a0 (by omega) (fun j h2 h3 => by rw [hhi j h2 (by omega)])
theorem rd_wf {l : List Int} (h : ∀ x ∈ l, (Lit.int .i64 x).wf = true) (i : Int) (h0 : 0 ≤ i) (h1 : i < (l.length : Int)) : rd l i ≤ 9223372036854775807 := by
  have h2 := rd_get l i h0 h1
  exact (wf64 (h _ (List.mem_of_getElem? h2))).2
theorem FnExactMemSent : laws_FnExactMemSent.Pure := by
  intro l _ _ hw
  by_cases c : (l.length : Int) > 1048576
  · exact ⟨0, by unfold laws_FnExactMemSent.f; rw [if_pos c]⟩
  · have hT := toInt_tells l (by omega)
    have hE := eqInt_self l (by omega)
    obtain ⟨v, hv, hI, hS⟩ : ∃ v, v.length ≤ 49 ∧ impl_MemSent.f l = some v ∧ ∀ k, l.length < k → spec_MemSent.f k l = some v := by
      by_cases h : (l.length : Int) = 49
      · have h8 := rd_wf hw 8 (by omega) (by omega)
        have hi : impl_MemSent.f l = if (unp (rd l 8)).2.2 < 0 then some [] else some ((l.take ((25 + (unp (rd l 8)).2.2) : Int).toNat).drop 25) := by
          unfold impl_MemSent.f slices_Clone_int_int.f
          rw [if_pos h, if_pos (by omega), unpack_eq _ h8]
          simp only [Option.bind_some]
          have hu := unp_in (rd l 8)
          by_cases n : (unp (rd l 8)).2.2 < 0
          · rw [if_pos n, if_pos n]
          · rw [if_neg n, if_neg n, w64 (by omega) (by omega), if_pos (by omega), if_pos (by omega), if_pos (by rw [List.length_drop, List.length_take]; omega)]
            rfl
        have hs : ∀ k, l.length < k → spec_MemSent.f k l = if (unp (rd l 8)).2.2 < 0 then some [] else some ((l.take ((25 + (unp (rd l 8)).2.2) : Int).toNat).drop 25) := by
          intro k hk
          unfold spec_MemSent.f
          rw [if_pos h, if_pos (by omega), sunpack_eq _ h8 k (by omega)]
          simp only [Option.bind_some]
          have hu := unp_in (rd l 8)
          by_cases n : (unp (rd l 8)).2.2 < 0
          · rw [if_pos n, if_pos n]
          · rw [if_neg n, if_neg n, w64 (by omega) (by omega), if_pos (by omega), if_pos (by omega), if_pos (by rw [List.length_nil, List.length_drop, List.length_take]; omega)]
            rfl
        by_cases n : (unp (rd l 8)).2.2 < 0
        · exact ⟨[], by simp, by rw [hi, if_pos n], fun k hk => by rw [hs k hk, if_pos n]⟩
        · exact ⟨(l.take ((25 + (unp (rd l 8)).2.2) : Int).toNat).drop 25, by rw [List.length_drop, List.length_take]; omega, by rw [hi, if_neg n], fun k hk => by rw [hs k hk, if_neg n]⟩
      · refine ⟨[], by simp, ?_, fun k hk => ?_⟩
        · unfold impl_MemSent.f
          rw [if_neg h]
        · unfold spec_MemSent.f
          rw [if_neg h]
    have hEv := eqInt_self v (by omega)
    obtain ⟨y1, hM1, _, _⟩ := mark_tells l (by omega) 1 (by omega) (by omega)
    obtain ⟨y2, hM2, hH2, _⟩ := mark_tells v (by omega) 1 (by omega) (by omega)
    have n1 : ¬ ((1 : Int) + (l.length : Int) < 0) := by omega
    have n2 : ¬ ((1 : Int) + (v.length : Int) < 0) := by omega
    obtain ⟨K, hK⟩ : ∃ K, l.length + 60 < K := ⟨_, Nat.lt_succ_self _⟩
    refine ⟨K + 1, ?_⟩
    unfold laws_FnExactMemSent.f
    rw [if_neg c, hT _ (by omega)]
    simp only [Option.bind_some]
    rw [hS _ (by omega), hI]
    simp only [Option.bind_some]
    rw [hEv _ (by omega), hM1 _ (by omega), hE _ (by omega)]
    simp only [Option.bind_some, if_true, if_neg n1, Bool.not_true]
    simp only [laws_FnExactMemSent.j0, Bool.false_eq_true, if_false]
    rw [hT _ (by omega), hM2 _ (by omega)]
    simp only [Option.bind_some]
    rw [hI, hH2 _ (by omega)]
    simp only [Option.bind_some, if_neg n2, if_true]
    rw [hEv _ (by omega)]
    simp only [Option.bind_some, if_true]

end Go.Proofs.Ytakejkdkchlanaa.Pure
