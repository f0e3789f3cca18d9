/- The program's ParseUint and the reference's return the same number and the same yes or no for every text; the row's tables and error values of the library hold what the card ties. -/
import Derived.Test.YtcpmkcidehhbiaaDoorPFnExactParseUintx1
import Derived.Laws.Concat
import Derived.Laws.Strings
import Derived.Lib.AtoiAllCases
import Derived.Lib.ItoaMem
namespace Go.Proofs.YtcpmkcidehhbiaaDoor.Pure
open Go.RowKit Go.Proofs.YtcpmkcidehhbiaaDoor.PFnExactParseUint Go.Proofs.YtcpmkcidehhbiaaDoorW.PrintWords Go.Proofs.YtcpmkcidehhbiaaDoorW.PrintLast
set_option linter.unusedVariables false
set_option linter.unusedSimpArgs false

theorem w64 {n : Int} (h1 : -9223372036854775808 ≤ n) (h2 : n ≤ 9223372036854775807) : wrap64 n = n := by unfold wrap64; omega
theorem w64_in (n : Int) : -9223372036854775808 ≤ wrap64 n ∧ wrap64 n ≤ 9223372036854775807 := by unfold wrap64; omega
theorem wf64 {n : Int} (h : (Lit.int .i64 n).wf = true) : -9223372036854775808 ≤ n ∧ n ≤ 9223372036854775807 := by
  simp only [Lit.wf, IntKind.min, IntKind.max, IntKind.signed, IntKind.bits, Bool.and_eq_true, decide_eq_true_eq, if_true] at h
  omega
theorem wfu8 {n : Int} (h : (Lit.int .u8 n).wf = true) : 0 ≤ n ∧ n ≤ 255 := by
  simp [Lit.wf, IntKind.min, IntKind.max, IntKind.signed, IntKind.bits] at h
  omega
theorem and_in (x : Int) (m : Nat) (hm : m < 9223372036854775808) : 0 ≤ Go.bits .and .i64 x (m : Int) ∧ Go.bits .and .i64 x (m : Int) ≤ m := by
  have h1 : (BitVec.ofInt 64 x &&& BitVec.ofInt 64 (m : Int)).toNat ≤ m := by
    rw [BitVec.toNat_and]
    refine Nat.le_trans Nat.and_le_right ?_
    rw [BitVec.ofInt_natCast, BitVec.toNat_ofNat]
    exact Nat.mod_le _ _
  have h2 : Go.bits .and .i64 x (m : Int) = IntKind.i64.wrap (((BitVec.ofInt 64 x &&& BitVec.ofInt 64 (m : Int)).toNat : Nat) : Int) := rfl
  rw [h2, Go.IntKind.wrap_i64]
  omega
theorem and255 (x : Int) : 0 ≤ Go.bits .and .i64 x 255 ∧ Go.bits .and .i64 x 255 ≤ 255 := and_in x 255 (by decide)
theorem tmod_in (x n : Int) (h0 : 0 ≤ x) (h : 1 ≤ n) : 0 ≤ Int.tmod x n ∧ Int.tmod x n < n := ⟨Int.tmod_nonneg _ h0, Int.tmod_lt_of_pos _ (by omega)⟩
/-- A text out of its bytes. -/
def tx (l : List UInt8) : ByteArray := ⟨l.toArray⟩
theorem tx_size (l : List UInt8) : (tx l).size = l.length := by simp [tx, ByteArray.size]
theorem tx_list (l : List UInt8) : (tx l).data.toList = l := rfl
theorem tx_app (a b : List UInt8) : tx a ++ tx b = tx (a ++ b) := by unfold tx; exact ByteArray.mk_append_mk _ _
theorem tx_back (s : ByteArray) : tx s.data.toList = s := by cases s; simp [tx]
theorem size_tl (s : ByteArray) : s.size = s.data.toList.length := (Array.length_toList).symm
theorem tl_eq (a b : ByteArray) : a.toList = b.toList ↔ a.data.toList = b.data.toList := by rw [ByteArray.toList_eq, ByteArray.toList_eq]
theorem tx_inj (a b : List UInt8) : tx a = tx b ↔ a = b := by
  constructor
  · intro h
    have := congrArg (fun s : ByteArray => s.data.toList) h
    simpa [tx] using this
  · rintro rfl; rfl
theorem bt_tx (s : ByteArray) (pre : List UInt8) (c : UInt8) (u : List UInt8) (h : s.data.toList = pre ++ c :: u) : bt s (pre.length : Int) = (c.toNat : Int) := by
  have hl : s.data.toList.length = pre.length + (u.length + 1) := by rw [h]; simp
  have hz : pre.length < s.size := by have := size_tl s; omega
  unfold bt
  rw [dif_pos (by simpa using hz)]
  have e : s[((pre.length : Nat) : Int).toNat]'(by simpa using hz) = s.data.toList[pre.length]'(by omega) := by simp [ByteArray.getElem_eq_getElem_data]
  rw [e]
  have e2 : s.data.toList[pre.length]'(by omega) = c := by simp only [h]; simp
  rw [e2]
/-- The digits of u, none of nought. -/
def dgs (u : Nat) : List UInt8 := if u = 0 then [] else Lib.decDigits u
theorem dgs_step (u : Nat) (h : 1 ≤ u) : dgs u = dgs (u / 10) ++ [UInt8.ofNat (48 + u % 10)] := by
  unfold dgs
  rw [if_neg (by omega)]
  by_cases c : u < 10
  · rw [Lib.decDigits_one c, if_pos (by omega)]
    rw [show u % 10 = u by omega]; rfl
  · rw [if_neg (by omega)]
    conv => lhs; rw [Lib.decDigits, dif_neg c]
theorem fig1 (v : Nat) (h : v < 10) : spec_l01Figure.f (v : Int) = some (((48 + v : Nat) : Int)) := by
  unfold spec_l01Figure.f
  rw [if_pos (by omega), w64 (by omega) (by omega)]
  congr 1; omega
theorem fmt_loop (b : Bool) (k : Nat) : ∀ (x : Int) (u : Nat) (l : List UInt8), x = u ∨ x = -(u : Int) → u < 10 ^ k → u ≤ 9223372036854775808 → l.length + k ≤ 40 → x ≤ 9223372036854775807 →
    spec_FormatInt.l0 (k + 1) x b ⟨l.toArray⟩ = some (if b = true then ⟨(45 :: (dgs u ++ l)).toArray⟩ else ⟨(dgs u ++ l).toArray⟩) := by
  induction k with
  | zero =>
    intro x u l hx hu _ hl _
    have h0 : u = 0 := by simpa using hu
    have hx0 : x = 0 := by omega
    simp only [spec_FormatInt.l0]
    rw [if_pos hx0, h0]
    have hz : (ByteArray.mk l.toArray).size = l.length := by simp [ByteArray.size]
    have e : (⟨#[45]⟩ : ByteArray) ++ ⟨l.toArray⟩ = ⟨(45 :: l).toArray⟩ := ByteArray.mk_append_mk [45] l
    have hc : 1 + (ByteArray.mk l.toArray).size ≤ 9223372036854775807 := by rw [hz]; omega
    rw [e, if_pos hc]
    have : dgs 0 ++ l = l := rfl
    rw [this]
    cases b <;> rfl
  | succ k ih =>
    intro x u l hx hu hu2 hl hx2
    obtain ⟨m, hm⟩ : ∃ m, m = k + 1 := ⟨_, rfl⟩
    rw [← hm] at ih ⊢
    have hz : (ByteArray.mk l.toArray).size = l.length := by simp [ByteArray.size]
    by_cases h0 : u = 0
    · have hx0 : x = 0 := by omega
      simp only [spec_FormatInt.l0]
      rw [if_pos hx0, h0]
      have e : (⟨#[45]⟩ : ByteArray) ++ ⟨l.toArray⟩ = ⟨(45 :: l).toArray⟩ := ByteArray.mk_append_mk [45] l
      have hc : 1 + (ByteArray.mk l.toArray).size ≤ 9223372036854775807 := by rw [hz]; omega
      rw [e, if_pos hc]
      have : dgs 0 ++ l = l := rfl
      rw [this]
      cases b <;> rfl
    · have hs := dgs_step u (by omega)
      have hv : u % 10 < 10 := Nat.mod_lt _ (by omega)
      have hd : u / 10 < 10 ^ k := by rw [Nat.div_lt_iff_lt_mul (by omega)]; rw [Nat.pow_succ] at hu; exact hu
      have hS : strOfNums [((48 + u % 10 : Nat) : Int)] = ⟨[UInt8.ofNat (48 + u % 10)].toArray⟩ := by unfold strOfNums; rw [List.map_cons, List.map_nil, Int.toNat_natCast]
      have e : strOfNums [((48 + u % 10 : Nat) : Int)] ++ (⟨l.toArray⟩ : ByteArray) = ⟨(UInt8.ofNat (48 + u % 10) :: l).toArray⟩ := by rw [hS]; exact ByteArray.mk_append_mk _ l
      have hsz : (strOfNums [((48 + u % 10 : Nat) : Int)]).size = 1 := by rw [strOfNums_size]; rfl
      have ht : dgs (u / 10) ++ (UInt8.ofNat (48 + u % 10) :: l) = dgs u ++ l := by rw [hs]; simp
      simp only [spec_FormatInt.l0]
      rw [if_neg (by omega)]
      rcases hx with hx | hx
      · have h1 : Int.tmod x 10 = ((u % 10 : Nat) : Int) := by rw [hx, Int.tmod_eq_emod_of_nonneg (by omega)]; rfl
        have h2 : Int.tdiv x 10 = ((u / 10 : Nat) : Int) := by rw [hx, Int.tdiv_eq_ediv_of_nonneg (by omega)]; rfl
        rw [h1, h2, if_neg (by omega), fig1 _ hv]
        simp only [Option.bind_some]
        rw [hsz, hz, if_pos (by omega), w64 (by omega) (by omega), e, ih _ (u / 10) _ (Or.inl rfl) hd (by omega) (by simp only [List.length_cons]; omega) (by omega), ht]
      · have h1 : Int.tmod x 10 = -((u % 10 : Nat) : Int) := by rw [hx, Int.neg_tmod, Int.tmod_eq_emod_of_nonneg (by omega)]; rfl
        have h2 : Int.tdiv x 10 = -((u / 10 : Nat) : Int) := by rw [hx, Int.neg_tdiv, Int.tdiv_eq_ediv_of_nonneg (by omega)]; rfl
        rw [h1, h2]
        by_cases c : u % 10 = 0
        · have hf := fig1 0 (by omega)
          rw [if_neg (by omega), c, show -((0 : Nat) : Int) = ((0 : Nat) : Int) from rfl, hf]
          simp only [Option.bind_some]
          rw [c] at hsz e ht
          rw [hsz, hz, if_pos (by omega), w64 (by omega) (by omega), e, ih _ (u / 10) _ (Or.inr rfl) hd (by omega) (by simp only [List.length_cons]; omega) (by omega), ht]
        · rw [if_pos (by omega), w64 (n := - -((u % 10 : Nat) : Int)) (by omega) (by omega), Int.neg_neg, fig1 _ hv]
          simp only [Option.bind_some]
          rw [hsz, hz, if_pos (by omega), w64 (by omega) (by omega), e, ih _ (u / 10) _ (Or.inr rfl) hd (by omega) (by simp only [List.length_cons]; omega) (by omega), ht]
theorem sfmt (n : Int) (h0 : -9223372036854775808 ≤ n) (h1 : n ≤ 9223372036854775807) (k : Nat) (hk : 20 ≤ k) : spec_FormatInt.f k n = some ⟨(Lib.itoa n).toArray⟩ := by
  have hp : (9223372036854775808 : Nat) < 10 ^ 19 := by decide
  unfold spec_FormatInt.f Lib.itoa
  by_cases c : n = 0
  · rw [if_pos c, c, if_neg (by omega), show (0 : Int).toNat = 0 from rfl, Lib.decDigits_one (by omega)]; rfl
  · rw [if_neg c]
    have h := fmt_loop (decide (n < 0)) 19 n n.natAbs [] (by omega) (by omega) (by omega) (by simp) h1
    have e : (⟨#[]⟩ : ByteArray) = ⟨([] : List UInt8).toArray⟩ := rfl
    rw [e, at_rounds (fun k => spec_FormatInt.mono_l k _ _ _) (by omega : 19 + 1 ≤ k) h, List.append_nil]
    have hd : dgs n.natAbs = Lib.decDigits n.natAbs := by unfold dgs; rw [if_neg (by omega)]
    rw [hd]
    by_cases d : n < 0
    · rw [if_pos (decide_eq_true d), if_pos d]
    · rw [if_neg (by simp; omega), if_neg d, show n.natAbs = n.toNat by omega]
theorem ifmt (n : Int) (h0 : -9223372036854775808 ≤ n) (h1 : n ≤ 9223372036854775807) : impl_FormatInt.f n = some ⟨(Lib.itoa n).toArray⟩ := by
  unfold impl_FormatInt.f
  rw [if_pos ⟨h0, h1⟩]
theorem pu_app (l : List UInt8) : ∀ (acc u : Nat) (r : List UInt8), Lib.parseUint10 acc l = .ok u → Lib.parseUint10 acc (l ++ r) = Lib.parseUint10 u r := by
  induction l with
  | nil => intro acc u r h; simp only [Lib.parseUint10] at h; injection h with h; subst h; rfl
  | cons c l ih =>
    intro acc u r h
    simp only [Lib.parseUint10] at h
    split at h
    · rename_i hc
      split at h
      · cases h
      · rename_i h1
        split at h
        · cases h
        · rename_i h2
          rw [List.cons_append]
          simp only [Lib.parseUint10]
          rw [if_pos hc, if_neg h1, if_neg h2]
          exact ih _ _ _ h
    · cases h
theorem fig_nat (n : Nat) (h : n < 10) : (UInt8.ofNat (48 + n)).toNat = 48 + n := UInt8.toNat_ofNat_of_lt' (by show 48 + n < 256; omega)
theorem pu_dec (n : Nat) : n < 18446744073709551616 → Lib.parseUint10 0 (Lib.decDigits n) = .ok n := by
  induction n using Nat.strongRecOn with
  | _ n ih =>
    intro h
    by_cases c : n < 10
    · rw [Lib.decDigits_one c]
      simp only [Lib.parseUint10, fig_nat n c]
      rw [if_pos (by omega), if_neg (by omega), if_neg (by omega)]
      congr 1; omega
    · rw [Lib.decDigits, dif_neg c, pu_app _ _ _ _ (ih (n / 10) (by omega) (by omega))]
      simp only [Lib.parseUint10, fig_nat (n % 10) (by omega)]
      rw [if_pos (by omega), if_neg (by omega), if_neg (by omega)]
      congr 1; omega
theorem dec_digit (n : Nat) : ∀ c ∈ Lib.decDigits n, 48 ≤ c.toNat ∧ c.toNat ≤ 57 := by
  induction n using Nat.strongRecOn with
  | _ n ih =>
    intro c hc
    by_cases d : n < 10
    · rw [Lib.decDigits_one d] at hc
      obtain rfl := List.mem_singleton.1 hc
      rw [fig_nat n d]; omega
    · rw [Lib.decDigits, dif_neg d] at hc
      rcases List.mem_append.1 hc with hc | hc
      · exact ih (n / 10) (by omega) c hc
      · obtain rfl := List.mem_singleton.1 hc
        rw [fig_nat (n % 10) (by omega)]; omega
theorem dec_ne (n : Nat) : Lib.decDigits n ≠ [] := by
  intro e
  have h := Lib.decDigits_length n
  rw [e] at h
  have := Lib.nDigits_pos n
  simp at h
  omega
theorem dec_len (n : Nat) (h : n < 10000000000) : (Lib.decDigits n).length ≤ 10 := by
  rw [Lib.decDigits_length]
  have hb : ∀ (k u : Nat), u < 10 ^ (k + 1) → Lib.nDigits u ≤ k + 1 := by
    intro k
    induction k with
    | zero => intro u hu; rw [Lib.nDigits_small (by simpa using hu)]; omega
    | succ k ih =>
      intro u hu
      by_cases c : u < 10
      · rw [Lib.nDigits_small c]; omega
      · rw [Lib.nDigits_big c]
        have := ih (u / 10) (by rw [Nat.pow_succ] at hu; omega)
        omega
  exact hb 9 n (by simpa using h)
theorem atoi_dec (n : Nat) (h : n < 9223372036854775808) : Lib.atoiAll (Lib.decDigits n) = .ok (n : Int) := by
  cases e : Lib.decDigits n with
  | nil => exact absurd e (dec_ne n)
  | cons c r =>
    have hc := dec_digit n c (by rw [e]; simp)
    rw [Lib.atoiAll_plain c r (by omega) (by omega), ← e]
    unfold Lib.parseMag
    rw [if_neg (dec_ne n), pu_dec n (by omega)]
    simp only [Lib.signless]
    rw [if_neg (by omega)]
/-- The number that digits spell. -/
def dval (acc : Nat) (l : List UInt8) : Nat := l.foldl (fun a c => 10 * a + (c.toNat - 48)) acc
theorem dval_dec (n : Nat) : dval 0 (Lib.decDigits n) = n := by
  induction n using Nat.strongRecOn with
  | _ n ih =>
    by_cases c : n < 10
    · rw [Lib.decDigits_one c]
      simp only [dval, List.foldl_cons, List.foldl_nil, fig_nat n c]; omega
    · have h := ih (n / 10) (by omega)
      unfold dval at h ⊢
      rw [Lib.decDigits, dif_neg c, List.foldl_append, h]
      simp only [List.foldl_cons, List.foldl_nil, fig_nat (n % 10) (by omega)]; omega
/-- What ParseUint gives. -/
def puv (l : List UInt8) : Int × Bool := if dval 0 l ≤ 1000000000 ∧ Lib.decDigits (dval 0 l) = l then ((dval 0 l : Int), true) else (0, false)
theorem puv_of (n : Nat) (h : n ≤ 1000000000) : puv (Lib.decDigits n) = ((n : Int), true) := by
  unfold puv
  rw [dval_dec, if_pos ⟨h, rfl⟩]
theorem itoa_nat (n : Nat) : Lib.itoa (n : Int) = Lib.decDigits n := Lib.itoa_nonneg n
theorem data_back (s : ByteArray) : (⟨s.data.toList.toArray⟩ : ByteArray) = s := by cases s; simp
def dg (c : UInt8) : Bool := decide (48 ≤ c.toNat ∧ c.toNat ≤ 57)
theorem dval_lt (l : List UInt8) : ∀ acc : Nat, l.all dg = true → dval acc l < (acc + 1) * 10 ^ l.length := by
  induction l with
  | nil => intro acc _; simp [dval]
  | cons c l ih =>
    intro acc h
    rw [List.all_cons, Bool.and_eq_true] at h
    have hc : 48 ≤ c.toNat ∧ c.toNat ≤ 57 := of_decide_eq_true h.1
    have h2 := ih (10 * acc + (c.toNat - 48)) h.2
    have e : dval acc (c :: l) = dval (10 * acc + (c.toNat - 48)) l := rfl
    rw [e, List.length_cons, Nat.pow_succ]
    refine Nat.lt_of_lt_of_le h2 ?_
    calc (10 * acc + (c.toNat - 48) + 1) * 10 ^ l.length ≤ (10 * (acc + 1)) * 10 ^ l.length := Nat.mul_le_mul_right _ (by omega)
      _ = (acc + 1) * (10 ^ l.length * 10) := by rw [Nat.mul_comm 10 (acc + 1), Nat.mul_assoc, Nat.mul_comm 10]
theorem dval_snoc (l : List UInt8) (c : UInt8) : dval 0 (l ++ [c]) = 10 * dval 0 l + (c.toNat - 48) := by simp [dval]
theorem puv_digits (l : List UInt8) (h : l.all dg = false) : puv l = (0, false) := by
  unfold puv
  rw [if_neg]
  rintro ⟨_, e⟩
  have : l.all dg = true := by
    rw [← e, List.all_eq_true]
    intro c hc
    exact decide_eq_true (dec_digit _ c hc)
  rw [this] at h; cases h
theorem puv_long (l : List UInt8) (h : 10 < l.length) : puv l = (0, false) := by
  unfold puv
  rw [if_neg]
  rintro ⟨h1, e⟩
  have := dec_len (dval 0 l) (by omega)
  rw [e] at this; omega
theorem spu_loop (s : ByteArray) (hs : s.size ≤ 10) (u : List UInt8) : ∀ (k : Nat) (pre : List UInt8), s.data.toList = pre ++ u → pre.all dg = true → u.length + 21 < k →
    spec_ParseUint.l0 k s ((dval 0 pre : Nat) : Int) ((pre.length : Nat) : Int) = some (if u.all dg = true then puv s.data.toList else (0, false)) := by
  have hz := size_tl s
  induction u with
  | nil =>
    intro k pre e hd hk
    obtain ⟨k, rfl⟩ : ∃ m, k = m + 1 := ⟨k - 1, by omega⟩
    rw [List.append_nil] at e
    have hl := dval_lt pre 0 hd
    have hp : 10 ^ pre.length ≤ 10 ^ 10 := Nat.pow_le_pow_right (by omega) (by rw [← e]; omega)
    simp only [spec_ParseUint.l0]
    rw [if_neg (by rw [hz, e]; omega), List.all_nil, if_pos rfl, e]
    unfold puv
    by_cases c : dval 0 pre ≤ 1000000000
    · rw [if_neg (by omega), sfmt _ (by omega) (by omega) k (by omega)]
      simp only [Option.bind_some]
      have hi : (ByteArray.mk (Lib.itoa ((dval 0 pre : Nat) : Int)).toArray).data.toList = Lib.decDigits (dval 0 pre) := by rw [itoa_nat]
      by_cases d : Lib.decDigits (dval 0 pre) = pre
      · rw [if_pos ((tl_eq _ _).2 (by rw [hi, e, d])), if_pos ⟨c, d⟩]
      · rw [if_neg (fun z => d (by have := (tl_eq _ _).1 z; rw [hi, e] at this; exact this)), if_neg (fun z => d z.2)]
    · rw [if_pos (by omega), if_neg (fun z => c z.1)]
  | cons c u ih =>
    intro k pre e hd hk
    obtain ⟨k, rfl⟩ : ∃ m, k = m + 1 := ⟨k - 1, by omega⟩
    simp only [List.length_cons] at hk
    have hb := bt_tx s pre c u e
    have hlen : s.size = pre.length + (u.length + 1) := by rw [hz, e]; simp
    have hl := dval_lt pre 0 hd
    have hp : 10 ^ pre.length ≤ 10 ^ 10 := Nat.pow_le_pow_right (by omega) (by omega)
    simp only [spec_ParseUint.l0]
    rw [if_pos (by omega), if_pos (by omega), hb, List.all_cons]
    by_cases h1 : c.toNat < 48
    · rw [if_pos (by omega), show dg c = false from decide_eq_false (by omega)]; rfl
    · by_cases h2 : c.toNat > 57
      · rw [if_neg (by omega), if_pos (by omega), show dg c = false from decide_eq_false (by omega)]; rfl
      · have hc : dg c = true := decide_eq_true (by omega)
        have i2 := ih k (pre ++ [c]) (by rw [e]; simp) (by rw [List.all_append, hd]; simp [hc]) (by omega)
        rw [dval_snoc, List.length_append, List.length_singleton] at i2
        rw [if_neg (by omega), if_neg (by omega), w64 (n := 10 * ((dval 0 pre : Nat) : Int)) (by omega) (by omega), w64 (n := (c.toNat : Int)) (by omega) (by omega), w64 (n := 10 * ((dval 0 pre : Nat) : Int) + (c.toNat : Int)) (by omega) (by omega), w64 (by omega) (by omega), w64 (n := ((pre.length : Nat) : Int) + 1) (by omega) (by omega), hc, Bool.true_and]
        rw [show 10 * ((dval 0 pre : Nat) : Int) + (c.toNat : Int) - 48 = ((10 * dval 0 pre + (c.toNat - 48) : Nat) : Int) by omega, show ((pre.length : Nat) : Int) + 1 = ((pre.length + 1 : Nat) : Int) by omega]
        exact i2
theorem spu (s : ByteArray) (k : Nat) (hk : 40 ≤ k) : spec_ParseUint.f k s = some (puv s.data.toList) := by
  have hz := size_tl s
  unfold spec_ParseUint.f
  by_cases c : (s.size : Int) > 10
  · rw [if_pos c, puv_long _ (by omega)]
  · rw [if_neg c]
    have h := spu_loop s (by omega) s.data.toList k [] (by simp) (by simp) (by omega)
    have e : ((dval 0 [] : Nat) : Int) = 0 := rfl
    rw [e] at h
    have e2 : ((([] : List UInt8).length : Nat) : Int) = 0 := rfl
    rw [e2] at h
    rw [h]
    by_cases d : s.data.toList.all dg = true
    · rw [if_pos d]
    · rw [if_neg d, puv_digits _ (by simpa using d)]
theorem ipu (s : ByteArray) (hs : s.size ≤ 281474976710656) : impl_ParseUint.f s = some (puv s.data.toList) := by
  unfold impl_ParseUint.f
  rw [if_pos hs]
  congr 1
  have key : ∀ v : Int, 0 ≤ v ∧ v ≤ 1000000000 → (⟨(Lib.itoa v).toArray⟩ : ByteArray) = s → puv s.data.toList = (v, true) := by
    intro v hv e
    obtain ⟨n, rfl⟩ : ∃ n : Nat, v = (n : Int) := ⟨v.toNat, by omega⟩
    rw [← e, itoa_nat]
    exact puv_of n (by omega)
  have key2 : ∀ n : Nat, n ≤ 1000000000 → Lib.decDigits n = s.data.toList → Lib.atoiAll s.data.toList = .ok (n : Int) ∧ (⟨(Lib.itoa (n : Int)).toArray⟩ : ByteArray) = s := by
    intro n hn e
    rw [← e, atoi_dec n (by omega), itoa_nat, e]
    exact ⟨rfl, by cases s; simp⟩
  by_cases c : dval 0 s.data.toList ≤ 1000000000 ∧ Lib.decDigits (dval 0 s.data.toList) = s.data.toList
  · obtain ⟨h1, h2⟩ := key2 _ c.1 c.2
    rw [h1]
    simp only []
    rw [if_pos ⟨by omega, by omega, h2⟩]
    unfold puv
    rw [if_pos c]
  · have hp : puv s.data.toList = (0, false) := by unfold puv; rw [if_neg c]
    rw [hp]
    split
    · rename_i v hv
      rw [if_neg]
      rintro ⟨h0, h1, e⟩
      have := key v ⟨h0, h1⟩ e
      rw [hp] at this
      have := (Prod.mk.inj this).2
      cases this
    · rfl
theorem FnExactParseUint : laws_FnExactParseUint.Pure := by
  intro s hs
  refine ⟨60, ?_⟩
  unfold laws_FnExactParseUint.f
  by_cases c : (s.size : Int) > 1048576
  · rw [if_pos c]
  · rw [if_neg c, spu s 60 (by omega), ipu s (by omega)]
    simp

end Go.Proofs.YtcpmkcidehhbiaaDoor.Pure
