/- The program's ApplyWrites and the reference's return the same for all slices, writes and counts, in memory of their own, and leave the slices as they were; no condition. -/
import Derived.Test.YtakejkdkchlanaaPFnExactApplyWritesx4
namespace Go.Proofs.Ytakejkdkchlanaa.Pure
open Go.RowKit Go.Proofs.Ytakejkdkchlanaa.PFnExactApplyWrites Go.Proofs.YtakejkdkchlanaaW.PrintWords Go.Proofs.YtakejkdkchlanaaW.PrintLast
set_option linter.unusedVariables false
set_option linter.unusedSimpArgs false

theorem w64 {n : Int} (h1 : -9223372036854775808 ≤ n) (h2 : n ≤ 9223372036854775807) : wrap64 n = n := by unfold wrap64; omega
theorem w64_in (n : Int) : -9223372036854775808 ≤ wrap64 n ∧ wrap64 n ≤ 9223372036854775807 := by unfold wrap64; omega
theorem wf64 {n : Int} (h : (Lit.int .i64 n).wf = true) : -9223372036854775808 ≤ n ∧ n ≤ 9223372036854775807 := by
  simp only [Lit.wf, IntKind.min, IntKind.max, IntKind.signed, IntKind.bits, Bool.and_eq_true, decide_eq_true_eq, if_true] at h
  omega
theorem wfu8 {n : Int} (h : (Lit.int .u8 n).wf = true) : 0 ≤ n ∧ n ≤ 255 := by
  simp [Lit.wf, IntKind.min, IntKind.max, IntKind.signed, IntKind.bits] at h
  omega
theorem and_in (x : Int) (m : Nat) (hm : m < 9223372036854775808) : 0 ≤ Go.bits .and .i64 x (m : Int) ∧ Go.bits .and .i64 x (m : Int) ≤ m := by
  have h1 : (BitVec.ofInt 64 x &&& BitVec.ofInt 64 (m : Int)).toNat ≤ m := by
    rw [BitVec.toNat_and]
    refine Nat.le_trans Nat.and_le_right ?_
    rw [BitVec.ofInt_natCast, BitVec.toNat_ofNat]
    exact Nat.mod_le _ _
  have h2 : Go.bits .and .i64 x (m : Int) = IntKind.i64.wrap (((BitVec.ofInt 64 x &&& BitVec.ofInt 64 (m : Int)).toNat : Nat) : Int) := rfl
  rw [h2, Go.IntKind.wrap_i64]
  omega
theorem and255 (x : Int) : 0 ≤ Go.bits .and .i64 x 255 ∧ Go.bits .and .i64 x 255 ≤ 255 := and_in x 255 (by decide)
theorem tmod_in (x n : Int) (h0 : 0 ≤ x) (h : 1 ≤ n) : 0 ≤ Int.tmod x n ∧ Int.tmod x n < n := ⟨Int.tmod_nonneg _ h0, Int.tmod_lt_of_pos _ (by omega)⟩
theorem in_eq (a b c : Int) : spec_l01In.f a b c = some (decide (b ≤ a ∧ a ≤ c)) := by
  unfold spec_l01In.f
  by_cases h : a ≥ b
  · rw [if_pos h]; simp; omega
  · rw [if_neg h]; simp; omega
theorem within_eq (a b c : Int) : impl_within.f a b c = some (decide (b ≤ a ∧ a ≤ c)) := by
  unfold impl_within.f
  by_cases h : a ≥ b
  · rw [if_pos h]; simp; omega
  · rw [if_neg h]; simp; omega
theorem rd_get (xs : List Int) (i : Int) (h0 : 0 ≤ i) (h1 : i < (xs.length : Int)) : xs[i.toNat]? = some (rd xs i) := by
  have h : i.toNat < xs.length := by omega
  unfold Go.Proofs.YtakejkdkchlanaaW.PrintWords.rd
  rw [List.getD_eq_getElem?_getD, List.getElem?_eq_getElem h]
  rfl
theorem toInt_loop (l : List Int) (sz : (l.length : Int) ≤ 140737488351232) (d : Nat) : ∀ (k : Nat) (x : List Int) (i : Int), 0 ≤ i → i ≤ l.length → (l.length : Int) - i = d → d < k → x.length = l.length → (∀ j : Nat, (j : Int) < i → x[j]? = l[j]?) →
    laws_toIntS.l0 k l x i = some l := by
  induction d with
  | zero =>
    intro k x i h0 h1 hd hk hl hx
    obtain ⟨k, rfl⟩ : ∃ m, k = m + 1 := ⟨k - 1, by omega⟩
    simp only [laws_toIntS.l0]
    rw [if_neg (by omega)]
    congr 1
    apply List.ext_getElem?
    intro j
    by_cases hj : (j : Int) < i
    · exact hx j hj
    · rw [List.getElem?_eq_none (by omega), List.getElem?_eq_none (by omega)]
  | succ d ih =>
    intro k x i h0 h1 hd hk hl hx
    obtain ⟨k, rfl⟩ : ∃ m, k = m + 1 := ⟨k - 1, by omega⟩
    simp only [laws_toIntS.l0]
    rw [if_pos (by omega), if_pos h0, if_pos (by omega), w64 (n := i + 1) (by omega) (by omega)]
    refine ih k _ (i + 1) (by omega) (by omega) (by omega) (by omega) (by simp [hl]) ?_
    intro j hj
    by_cases e : (j : Int) = i
    · have e2 : j = i.toNat := by omega
      subst e2
      rw [rd_get l i h0 (by omega), List.getElem?_set_self (by omega)]
    · rw [List.getElem?_set_ne (by omega)]
      exact hx j (by omega)
theorem toInt_tells (l : List Int) (h : (l.length : Int) ≤ 1048576) : ∀ k, l.length < k → laws_toIntS.f k l = some l := by
  intro k hk
  unfold laws_toIntS.f
  rw [if_pos (by omega), if_pos (by omega)]
  exact toInt_loop l (by omega) l.length k _ 0 (by omega) (by omega) (by omega) hk (by simp) (fun j hj => by omega)
theorem eqInt_loop (l : List Int) (sz : (l.length : Int) ≤ 140737488351232) (d : Nat) : ∀ (k : Nat) (i : Int), 0 ≤ i → i ≤ l.length → (l.length : Int) - i = d → d < k → laws_eqIntS.l0 k l l i = some true := by
  induction d with
  | zero =>
    intro k i h0 h1 hd hk
    obtain ⟨k, rfl⟩ : ∃ m, k = m + 1 := ⟨k - 1, by omega⟩
    simp only [laws_eqIntS.l0]
    rw [if_neg (by omega)]
  | succ d ih =>
    intro k i h0 h1 hd hk
    obtain ⟨k, rfl⟩ : ∃ m, k = m + 1 := ⟨k - 1, by omega⟩
    simp only [laws_eqIntS.l0]
    rw [if_pos (by omega), if_pos h0, if_pos (by omega), if_pos trivial, w64 (n := i + 1) (by omega) (by omega)]
    exact ih k (i + 1) (by omega) (by omega) (by omega) (by omega)
theorem eqInt_self (l : List Int) (sz : (l.length : Int) ≤ 140737488351232) : ∀ k, l.length < k → laws_eqIntS.f k l l = some true := by
  intro k hk
  unfold laws_eqIntS.f
  rw [if_pos rfl]
  exact eqInt_loop l sz l.length k 0 (by omega) (by omega) (by omega) hk
theorem mark_loop (d : Nat) : ∀ (k : Nat) (x : List Int) (a i : Int), 0 ≤ i → i ≤ x.length → (x.length : Int) - i = d → d < k → (x.length : Int) ≤ 140737488351232 → 0 ≤ a → a + d ≤ 1407374883512320 →
    ∃ y, laws_markIntS.l0 k x a i = some (a + d, y) ∧ y.length = x.length ∧ (∀ j : Nat, (j : Int) < i → y[j]? = x[j]?) ∧ ∀ j : Nat, i ≤ (j : Int) → (j : Int) < x.length → y[j]? = some (a + ((j : Int) - i)) := by
  induction d with
  | zero =>
    intro k x a i h0 h1 hd hk sz a0 a1
    obtain ⟨k, rfl⟩ : ∃ m, k = m + 1 := ⟨k - 1, by omega⟩
    refine ⟨x, ?_, rfl, fun _ _ => rfl, fun j h2 h3 => by omega⟩
    simp only [laws_markIntS.l0]
    rw [if_neg (by omega)]
    simp
  | succ d ih =>
    intro k x a i h0 h1 hd hk sz a0 a1
    obtain ⟨k, rfl⟩ : ∃ m, k = m + 1 := ⟨k - 1, by omega⟩
    have hl : (x.set i.toNat a).length = x.length := List.length_set
    obtain ⟨y, e, hy, hlo, hhi⟩ := ih k (x.set i.toNat a) (a + 1) (i + 1) (by omega) (by omega) (by omega) (by omega) (by omega) (by omega) (by omega)
    refine ⟨y, ?_, by omega, fun j hj => ?_, fun j hj hj2 => ?_⟩
    · simp only [laws_markIntS.l0]
      rw [if_pos (by omega), if_pos h0, w64 (n := a + 1) (by omega) (by omega), w64 (n := i + 1) (by omega) (by omega), e]
      congr 2
      omega
    · rw [hlo j (by omega), List.getElem?_set_ne (by omega)]
    · by_cases e2 : (j : Int) = i
      · have e3 : j = i.toNat := by omega
        rw [hlo j (by omega), e3, List.getElem?_set_self (by omega)]
        congr 1
        omega
      · rw [hhi j (by omega) (by omega)]
        congr 1
        omega
theorem held_loop (x : List Int) (sz : (x.length : Int) ≤ 140737488351232) (d : Nat) : ∀ (k : Nat) (a i : Int), 0 ≤ i → i ≤ x.length → (x.length : Int) - i = d → d < k → 0 ≤ a → a + d ≤ 1407374883512320 →
    (∀ j : Nat, i ≤ (j : Int) → (j : Int) < x.length → x[j]? = some (a + ((j : Int) - i))) → laws_heldIntS.l0 k x a i = some (a + d) := by
  induction d with
  | zero =>
    intro k a i h0 h1 hd hk a0 a1 hx
    obtain ⟨k, rfl⟩ : ∃ m, k = m + 1 := ⟨k - 1, by omega⟩
    simp only [laws_heldIntS.l0]
    rw [if_neg (by omega)]
    simp
  | succ d ih =>
    intro k a i h0 h1 hd hk a0 a1 hx
    obtain ⟨k, rfl⟩ : ∃ m, k = m + 1 := ⟨k - 1, by omega⟩
    have hr : rd x i = a := by
      have h2 := rd_get x i h0 (by omega)
      rw [hx i.toNat (by omega) (by omega)] at h2
      have h3 := Option.some.inj h2
      omega
    simp only [laws_heldIntS.l0]
    rw [if_pos (by omega), if_pos h0, if_pos hr, w64 (n := a + 1) (by omega) (by omega), w64 (n := i + 1) (by omega) (by omega)]
    rw [ih k (a + 1) (i + 1) (by omega) (by omega) (by omega) (by omega) (by omega) (by omega) (fun j h2 h3 => by rw [hx j (by omega) h3]; congr 1; omega)]
    congr 1
    omega
theorem mark_tells (l : List Int) (sz : (l.length : Int) ≤ 140737488351232) (a : Int) (a0 : 0 ≤ a) (a1 : a ≤ 140737488351232) : ∃ y, (∀ k, l.length < k → laws_markIntS.f k l a = some (a + l.length, y)) ∧ (∀ k, l.length < k → laws_heldIntS.f k y a = some (a + l.length)) ∧ y.length = l.length := by
  obtain ⟨y, e, hy, _, hhi⟩ := mark_loop l.length (l.length + 1) l a 0 (by omega) (by omega) (by omega) (by omega) sz a0 (by omega)
  refine ⟨y, fun k hk => ?_, fun k hk => ?_, hy⟩
  · exact at_rounds (fun k => laws_markIntS.mono l a k) (by omega : l.length + 1 ≤ k) e
  · unfold laws_heldIntS.f
    exact held_loop y (by omega) l.length k a 0 (by omega) (by omega) (by omega) hk a0 (by omega) (fun j h2 h3 => by rw [hhi j h2 (by omega)])
def cvw (s : S30) : S32 := ⟨s.f0, s.f1⟩
theorem rdw (xs : List S30) (i : Int) (h0 : 0 ≤ i) (h1 : i < (xs.length : Int)) : (xs.map cvw)[i.toNat]? = some (cvw (rd_T30 xs i)) := by
  have h : i.toNat < xs.length := by omega
  unfold rd_T30
  rw [List.getElem?_map, List.getD_eq_getElem?_getD, List.getElem?_eq_getElem h]
  rfl
theorem toWrite_loop (l : List S30) (sz : (l.length : Int) ≤ 140737488351232) (d : Nat) : ∀ (k : Nat) (x : List S32) (i : Int), 0 ≤ i → i ≤ l.length → (l.length : Int) - i = d → d < k → x.length = l.length → (∀ j : Nat, (j : Int) < i → x[j]? = (l.map cvw)[j]?) →
    laws_toWriteS.l0 k l x i = some (l.map cvw) := by
  induction d with
  | zero =>
    intro k x i h0 h1 hd hk hl hx
    obtain ⟨k, rfl⟩ : ∃ m, k = m + 1 := ⟨k - 1, by omega⟩
    simp only [laws_toWriteS.l0]
    rw [if_neg (by omega)]
    congr 1
    apply List.ext_getElem?
    intro j
    by_cases hj : (j : Int) < i
    · exact hx j hj
    · rw [List.getElem?_eq_none (by omega), List.getElem?_eq_none (by simp; omega)]
  | succ d ih =>
    intro k x i h0 h1 hd hk hl hx
    obtain ⟨k, rfl⟩ : ∃ m, k = m + 1 := ⟨k - 1, by omega⟩
    simp only [laws_toWriteS.l0, laws_toWrite.f, Option.bind_some]
    rw [if_pos (by omega), if_pos h0, if_pos (by omega), w64 (n := i + 1) (by omega) (by omega)]
    refine ih k _ (i + 1) (by omega) (by omega) (by omega) (by omega) (by simp [hl]) ?_
    intro j hj
    by_cases e : (j : Int) = i
    · have e2 : j = i.toNat := by omega
      subst e2
      rw [rdw l i h0 (by omega), List.getElem?_set_self (by omega)]
      rfl
    · rw [List.getElem?_set_ne (by omega)]
      exact hx j (by omega)
theorem toWrite_tells (l : List S30) (h : (l.length : Int) ≤ 1048576) : ∀ k, l.length < k → laws_toWriteS.f k l = some (l.map cvw) := by
  intro k hk
  unfold laws_toWriteS.f
  rw [if_pos (by omega), if_pos (by omega)]
  exact toWrite_loop l (by omega) l.length k _ 0 (by omega) (by omega) (by omega) hk (by simp) (fun j hj => by omega)
theorem eqWrite_loop (l : List S32) (sz : (l.length : Int) ≤ 140737488351232) (d : Nat) : ∀ (k : Nat) (i : Int), 0 ≤ i → i ≤ l.length → (l.length : Int) - i = d → d < k → laws_eqWriteS.l0 k l l i = some true := by
  induction d with
  | zero =>
    intro k i h0 h1 hd hk
    obtain ⟨k, rfl⟩ : ∃ m, k = m + 1 := ⟨k - 1, by omega⟩
    simp only [laws_eqWriteS.l0]
    rw [if_neg (by omega)]
  | succ d ih =>
    intro k i h0 h1 hd hk
    obtain ⟨k, rfl⟩ : ∃ m, k = m + 1 := ⟨k - 1, by omega⟩
    simp only [laws_eqWriteS.l0, laws_eqWrite.f, if_true, Option.bind_some]
    rw [if_pos (by omega), if_pos h0, if_pos (by omega), w64 (n := i + 1) (by omega) (by omega)]
    exact ih k (i + 1) (by omega) (by omega) (by omega) (by omega)
theorem eqWrite_self (l : List S32) (sz : (l.length : Int) ≤ 140737488351232) : ∀ k, l.length < k → laws_eqWriteS.f k l l = some true := by
  intro k hk
  unfold laws_eqWriteS.f
  rw [if_pos rfl]
  exact eqWrite_loop l sz l.length k 0 (by omega) (by omega) (by omega) hk
theorem szWrite_tells (l : List S30) (hl : l.length ≤ maxLen) : ∃ t, laws_szWriteS.f l 1048576 = some t ∧ (t < 0 ∨ (l.length : Int) ≤ 1048576) := by
  have hm : (maxLen : Int) ≤ 9223372036854775807 := by decide
  unfold laws_szWriteS.f
  rw [w64 (by omega) (by omega)]
  by_cases c : 1048576 - (l.length : Int) < 0
  · rw [if_pos c]; exact ⟨-1, rfl, Or.inl (by omega)⟩
  · rw [if_neg c]; exact ⟨_, rfl, Or.inr (by omega)⟩
theorem markWrite_loop (d : Nat) : ∀ (k : Nat) (x : List S32) (a i : Int), 0 ≤ i → i ≤ x.length → (x.length : Int) - i = d → d < k → (x.length : Int) ≤ 140737488351232 → 0 ≤ a → a + 2 * d ≤ 1407374883512320 →
    ∃ y, laws_markWriteS.l0 k x a i = some (a + 2 * d, y) := by
  induction d with
  | zero =>
    intro k x a i h0 h1 hd hk sz a0 a1
    obtain ⟨k, rfl⟩ : ∃ m, k = m + 1 := ⟨k - 1, by omega⟩
    refine ⟨x, ?_⟩
    simp only [laws_markWriteS.l0]
    rw [if_neg (by omega)]
    simp
  | succ d ih =>
    intro k x a i h0 h1 hd hk sz a0 a1
    obtain ⟨k, rfl⟩ : ∃ m, k = m + 1 := ⟨k - 1, by omega⟩
    simp only [laws_markWriteS.l0, Option.bind_some]
    rw [if_pos (by omega), if_pos h0, w64 (n := a + 1) (by omega) (by omega), w64 (n := a + 1 + 1) (by omega) (by omega), w64 (n := i + 1) (by omega) (by omega)]
    generalize hx : ((x.set i.toNat _).set i.toNat _ : List S32) = x2
    have hl : x2.length = x.length := by rw [← hx]; simp
    obtain ⟨y, e⟩ := ih k x2 (a + 1 + 1) (i + 1) (by omega) (by omega) (by omega) (by omega) (by omega) (by omega) (by omega)
    refine ⟨y, ?_⟩
    rw [e]
    congr 2
    push_cast
    omega
theorem markWrite_tells (l : List S32) (sz : (l.length : Int) ≤ 140737488351232) (a : Int) (a0 : 0 ≤ a) (a1 : a ≤ 140737488351232) (k : Nat) (hk : l.length < k) : ∃ y, laws_markWriteS.f k l a = some (a + 2 * l.length, y) :=
  markWrite_loop l.length k l a 0 (by omega) (by omega) (by omega) hk sz a0 (by omega)
def wr (l : List Int) (s : S32) : List Int := if 0 ≤ s.f0 ∧ s.f0 ≤ (l.length : Int) - 1 then l.set s.f0.toNat s.f1 else l
theorem wr_len (l : List Int) (s : S32) : (wr l s).length = l.length := by unfold wr; split <;> simp
def app : List Int → List S32 → List Int
  | l, [] => l
  | l, s :: t => app (wr l s) t
theorem app_len (t : List S32) : ∀ l, (app l t).length = l.length := by
  induction t with
  | nil => intro l; rfl
  | cons s t ih => intro l; show (app (wr l s) t).length = _; rw [ih, wr_len]
theorem rd_app (pre : List S32) (a : S32) (t : List S32) : rd_T32 (pre ++ a :: t) (pre.length : Int) = a := by
  unfold rd_T32
  simp [List.getD]
theorem iapply (suf : List S32) : ∀ (k : Nat) (pre y : List S32) (m : List Int), y = pre ++ suf → y.length ≤ 1048576 → (m.length : Int) ≤ 1048576 → suf.length + 1 ≤ k →
    impl_ApplyWrites.l0 k m y (y.length : Int) (pre.length : Int) = some (app m suf) := by
  induction suf with
  | nil =>
    intro k pre x m hx hz hm hk
    obtain ⟨k, rfl⟩ : ∃ m, k = m + 1 := ⟨k - 1, by omega⟩
    have hl : x.length = pre.length := by simp [hx]
    unfold impl_ApplyWrites.l0
    rw [if_neg (by omega)]
    rfl
  | cons a t ih =>
    intro k pre x m hx hz hm hk
    simp only [List.length_cons] at hk
    obtain ⟨k, rfl⟩ : ∃ m, k = m + 1 := ⟨k - 1, by omega⟩
    have hl : x.length = pre.length + (t.length + 1) := by simp [hx]
    have hr : rd_T32 x (pre.length : Int) = a := by rw [hx]; exact rd_app pre a t
    have hn : ((pre.length : Int) + 1) = (((pre ++ [a]).length : Nat) : Int) := by simp
    have step : ∀ m2 : List Int, m2.length = m.length → impl_ApplyWrites.l0 k m2 x (x.length : Int) (wrap64 ((pre.length : Int) + 1)) = some (app m2 t) := by
      intro m2 h2
      rw [w64 (by omega) (by omega), hn]
      exact ih k (pre ++ [a]) x m2 (by simp [hx]) hz (by omega) (by omega)
    have ha : app m (a :: t) = app (wr m a) t := rfl
    unfold impl_ApplyWrites.l0
    rw [if_pos (by omega), if_pos (by omega), if_pos (by omega)]
    simp only [hr]
    rw [within_eq, w64 (n := (m.length : Int) - 1) (by omega) (by omega), ha]
    simp only [Option.bind_some, decide_eq_true_eq]
    by_cases h : 0 ≤ a.f0 ∧ a.f0 ≤ (m.length : Int) - 1
    · have e : wr m a = m.set a.f0.toNat a.f1 := by unfold wr; rw [if_pos h]
      rw [if_pos h, if_pos h.1, if_pos (show a.f0 < (m.length : Int) by omega), e, step _ (by simp)]
    · have e : wr m a = m := by unfold wr; rw [if_neg h]
      rw [if_neg h, e, step _ rfl]
theorem sapply (suf : List S32) : ∀ (k : Nat) (pre r y : List S32) (m0 m : List Int) (n : Int), y = pre ++ (suf ++ r) → y.length ≤ 1048576 → (m0.length : Int) ≤ 1048576 → m.length = m0.length → 2 * suf.length + 2 ≤ k →
    (∀ i : Int, 0 ≤ i → i ≤ y.length → (i < (y.length : Int) ∧ i < n ↔ i < (pre.length : Int) + suf.length)) →
    spec_ApplyWrites.l0 k m0 y n m (pre.length : Int) = some (app m suf) := by
  induction suf with
  | nil =>
    intro k pre r x m0 m n hx hz hm hm2 hk hn
    obtain ⟨k, rfl⟩ : ∃ m, k = m + 2 := ⟨k - 2, by omega⟩
    have hl : x.length = pre.length + r.length := by simp [hx]
    have h := hn (pre.length : Int) (by omega) (by omega)
    simp only [List.length_nil] at h
    have hj : spec_ApplyWrites.j1 (k + 1) m0 x n m (pre.length : Int) false = some m := by simp [spec_ApplyWrites.j1]
    unfold spec_ApplyWrites.l0
    by_cases c : (pre.length : Int) < (x.length : Int)
    · rw [if_pos c, decide_eq_false (by omega), hj]; rfl
    · rw [if_neg c, hj]; rfl
  | cons a t ih =>
    intro k pre r x m0 m n hx hz hm hm2 hk hn
    simp only [List.length_cons] at hk hn
    obtain ⟨k, rfl⟩ : ∃ m, k = m + 2 := ⟨k - 2, by omega⟩
    have hl : x.length = pre.length + (t.length + 1 + r.length) := by simp [hx]; omega
    have hr : rd_T32 x (pre.length : Int) = a := by rw [hx]; exact rd_app pre a (t ++ r)
    have hn1 : ((pre.length : Int) + 1) = (((pre ++ [a]).length : Nat) : Int) := by simp
    have h := hn (pre.length : Int) (by omega) (by omega)
    have step : ∀ m2 : List Int, m2.length = m.length → spec_ApplyWrites.l0 k m0 x n m2 (wrap64 ((pre.length : Int) + 1)) = some (app m2 t) := by
      intro m2 h2
      rw [w64 (by omega) (by omega), hn1]
      refine ih k (pre ++ [a]) r x m0 m2 n (by simp [hx]) hz hm (by omega) (by omega) (fun i i0 i1 => ?_)
      have := hn i i0 i1
      rw [this]
      simp only [List.length_append, List.length_cons, List.length_nil]
      omega
    have ha : app m (a :: t) = app (wr m a) t := rfl
    unfold spec_ApplyWrites.l0
    rw [if_pos (by omega), decide_eq_true (by omega)]
    simp only [spec_ApplyWrites.j1, if_true]
    rw [if_pos (by omega), if_pos (by omega)]
    simp only [hr]
    rw [in_eq, w64 (n := (m0.length : Int) - 1) (by omega) (by omega), ha]
    simp only [Option.bind_some, decide_eq_true_eq]
    by_cases h : 0 ≤ a.f0 ∧ a.f0 ≤ (m0.length : Int) - 1
    · have e : wr m a = m.set a.f0.toNat a.f1 := by unfold wr; rw [if_pos (by omega)]
      rw [if_pos h, if_pos h.1, if_pos (show a.f0 < (m.length : Int) by omega), e, step _ (by simp)]
    · have e : wr m a = m := by unfold wr; rw [if_neg (by omega)]
      rw [if_neg h, e, step _ rfl]
theorem FnExactApplyWrites : laws_FnExactApplyWrites.Pure := by
  intro l ws n _ _ hw _ wn
  have hn := wf64 wn
  by_cases c : (l.length : Int) > 1048576
  · exact ⟨0, by unfold laws_FnExactApplyWrites.f; rw [if_pos c]⟩
  · obtain ⟨t, et, ht⟩ := szWrite_tells ws hw
    by_cases c2 : t < 0
    · exact ⟨0, by unfold laws_FnExactApplyWrites.f; rw [if_neg c, et]; simp only [Option.bind_some]; rw [if_pos c2]⟩
    · have hz : (ws.length : Int) ≤ 1048576 := by omega
      have hT := toInt_tells l (by omega)
      have hE := eqInt_self l (by omega)
      have hTW := toWrite_tells ws hz
      have hlw : (ws.map cvw).length = ws.length := List.length_map ..
      generalize ws.map cvw = x at *
      have hEW := eqWrite_self x (by omega)
      obtain ⟨v, hv, hI, hS⟩ : ∃ v : List Int, v.length = l.length ∧ (∀ k, ws.length < k → impl_ApplyWrites.f k l x n = some v) ∧ (∀ k, 2 * ws.length + 5 < k → spec_ApplyWrites.f k l x n = some v) := by
        have hc : ∃ q : Nat, impl_Clamp.f n 0 (x.length : Int) = some (q : Int) ∧ q ≤ x.length ∧ ∀ i : Int, 0 ≤ i → i ≤ x.length → (i < (x.length : Int) ∧ i < n ↔ i < (q : Int)) := by
          unfold impl_Clamp.f
          rw [if_neg (by omega)]
          have e : 0 ≤ mn (mx n 0) (x.length : Int) ∧ mn (mx n 0) (x.length : Int) ≤ x.length ∧ ∀ i : Int, 0 ≤ i → i ≤ x.length → (i < (x.length : Int) ∧ i < n ↔ i < mn (mx n 0) (x.length : Int)) := by
            unfold Go.Proofs.YtakejkdkchlanaaW.PrintWords.mn Go.Proofs.YtakejkdkchlanaaW.PrintWords.mx
            refine ⟨?_, ?_, fun i i0 i1 => ?_⟩ <;> (repeat' split) <;> omega
          refine ⟨(mn (mx n 0) (x.length : Int)).toNat, ?_, by omega, fun i i0 i1 => ?_⟩
          · rw [Int.toNat_of_nonneg e.1]
          · rw [Int.toNat_of_nonneg e.1]; exact e.2.2 i i0 i1
        obtain ⟨q, hq, hq2, hq3⟩ := hc
        have hx : x = x.take q ++ x.drop q := (List.take_append_drop ..).symm
        have hlt : (x.take q).length = q := by rw [List.length_take]; omega
        refine ⟨app l (x.take q), app_len _ _, fun k hk => ?_, fun k hk => ?_⟩
        · unfold impl_ApplyWrites.f slices_Clone_int_int.f
          rw [if_pos (by omega), hq]
          simp only [Option.bind_some]
          rw [if_pos (by omega), if_pos (by omega)]
          simp only [Int.toNat_natCast]
          exact iapply (x.take q) k [] (x.take q) l rfl (by omega) (by omega) (by omega)
        · unfold spec_ApplyWrites.f
          simp only [Option.bind_some, List.length_nil, List.nil_append]
          rw [if_pos (by omega)]
          exact sapply (x.take q) k [] (x.drop q) x l l n hx (by omega) (by omega) rfl (by omega) (fun i i0 i1 => by rw [hq3 i i0 i1, hlt]; simp)
      have hEv := eqInt_self v (by omega)
      obtain ⟨y1, hM1, _, _⟩ := mark_tells l (by omega) 1 (by omega) (by omega)
      obtain ⟨y2, hM2, hH2, _⟩ := mark_tells v (by omega) 1 (by omega) (by omega)
      obtain ⟨K, hK⟩ : ∃ K, l.length + 2 * ws.length + 60 < K := ⟨_, Nat.lt_succ_self _⟩
      obtain ⟨y3, hM3⟩ := markWrite_tells x (by omega) (1 + (l.length : Int)) (by omega) (by omega) (K + 3) (by omega)
      have n1 : ¬ ((1 : Int) + (l.length : Int) + 2 * (x.length : Int) < 0) := by omega
      have n2 : ¬ ((1 : Int) + (v.length : Int) < 0) := by omega
      refine ⟨K + 3, ?_⟩
      unfold laws_FnExactApplyWrites.f
      rw [if_neg c, et]
      simp only [Option.bind_some]
      rw [if_neg c2, hT _ (by omega), hTW _ (by omega)]
      simp only [Option.bind_some]
      rw [hS _ (by omega), hI _ (by omega)]
      simp only [Option.bind_some]
      rw [hEv _ (by omega)]
      simp only [Option.bind_some, if_true]
      rw [hE _ (by omega)]
      simp only [Option.bind_some, if_true]
      rw [hEW _ (by omega), hM1 _ (by omega)]
      simp only [Option.bind_some, if_true]
      rw [hM3]
      simp only [Option.bind_some, if_true, if_neg n1, Bool.not_true]
      simp only [laws_FnExactApplyWrites.j0, Bool.false_eq_true, if_false]
      rw [hM2 _ (by omega)]
      simp only [Option.bind_some]
      rw [hH2 _ (by omega)]
      simp only [Option.bind_some, if_neg n2, if_true]
      rw [hT _ (by omega), hTW _ (by omega)]
      simp only [Option.bind_some]
      rw [hI _ (by omega)]
      simp only [Option.bind_some]
      rw [hEv _ (by omega)]
      simp only [Option.bind_some, if_true]

end Go.Proofs.Ytakejkdkchlanaa.Pure
