/- Exactly the numbers in the range 0 to MaxUint can be parsed from their decimal text, at every draw; the row's tables and error values of the library hold what the card ties. -/
import Derived.Test.YtcpmkcidehhbiaaDoorPFnNumbersx1
import Derived.Laws.Concat
import Derived.Laws.Strings
import Derived.Lib.AtoiAllCases
import Derived.Lib.ItoaMem
namespace Go.Proofs.YtcpmkcidehhbiaaDoor.Pure
open Go.RowKit Go.Proofs.YtcpmkcidehhbiaaDoor.PFnNumbers Go.Proofs.YtcpmkcidehhbiaaDoorW.PrintWords Go.Proofs.YtcpmkcidehhbiaaDoorW.PrintLast
set_option linter.unusedVariables false
set_option linter.unusedSimpArgs false

theorem w64 {n : Int} (h1 : -9223372036854775808 ≤ n) (h2 : n ≤ 9223372036854775807) : wrap64 n = n := by unfold wrap64; omega
theorem w64_in (n : Int) : -9223372036854775808 ≤ wrap64 n ∧ wrap64 n ≤ 9223372036854775807 := by unfold wrap64; omega
theorem wf64 {n : Int} (h : (Lit.int .i64 n).wf = true) : -9223372036854775808 ≤ n ∧ n ≤ 9223372036854775807 := by
  simp only [Lit.wf, IntKind.min, IntKind.max, IntKind.signed, IntKind.bits, Bool.and_eq_true, decide_eq_true_eq, if_true] at h
  omega
theorem wfu8 {n : Int} (h : (Lit.int .u8 n).wf = true) : 0 ≤ n ∧ n ≤ 255 := by
  simp [Lit.wf, IntKind.min, IntKind.max, IntKind.signed, IntKind.bits] at h
  omega
theorem and_in (x : Int) (m : Nat) (hm : m < 9223372036854775808) : 0 ≤ Go.bits .and .i64 x (m : Int) ∧ Go.bits .and .i64 x (m : Int) ≤ m := by
  have h1 : (BitVec.ofInt 64 x &&& BitVec.ofInt 64 (m : Int)).toNat ≤ m := by
    rw [BitVec.toNat_and]
    refine Nat.le_trans Nat.and_le_right ?_
    rw [BitVec.ofInt_natCast, BitVec.toNat_ofNat]
    exact Nat.mod_le _ _
  have h2 : Go.bits .and .i64 x (m : Int) = IntKind.i64.wrap (((BitVec.ofInt 64 x &&& BitVec.ofInt 64 (m : Int)).toNat : Nat) : Int) := rfl
  rw [h2, Go.IntKind.wrap_i64]
  omega
theorem and255 (x : Int) : 0 ≤ Go.bits .and .i64 x 255 ∧ Go.bits .and .i64 x 255 ≤ 255 := and_in x 255 (by decide)
theorem tmod_in (x n : Int) (h0 : 0 ≤ x) (h : 1 ≤ n) : 0 ≤ Int.tmod x n ∧ Int.tmod x n < n := ⟨Int.tmod_nonneg _ h0, Int.tmod_lt_of_pos _ (by omega)⟩
/-- A text out of its bytes. -/
def tx (l : List UInt8) : ByteArray := ⟨l.toArray⟩
theorem tx_size (l : List UInt8) : (tx l).size = l.length := by simp [tx, ByteArray.size]
theorem tx_list (l : List UInt8) : (tx l).data.toList = l := rfl
theorem tx_app (a b : List UInt8) : tx a ++ tx b = tx (a ++ b) := by unfold tx; exact ByteArray.mk_append_mk _ _
theorem tx_back (s : ByteArray) : tx s.data.toList = s := by cases s; simp [tx]
theorem size_tl (s : ByteArray) : s.size = s.data.toList.length := (Array.length_toList).symm
theorem tl_eq (a b : ByteArray) : a.toList = b.toList ↔ a.data.toList = b.data.toList := by rw [ByteArray.toList_eq, ByteArray.toList_eq]
theorem tx_inj (a b : List UInt8) : tx a = tx b ↔ a = b := by
  constructor
  · intro h
    have := congrArg (fun s : ByteArray => s.data.toList) h
    simpa [tx] using this
  · rintro rfl; rfl
theorem bt_tx (s : ByteArray) (pre : List UInt8) (c : UInt8) (u : List UInt8) (h : s.data.toList = pre ++ c :: u) : bt s (pre.length : Int) = (c.toNat : Int) := by
  have hl : s.data.toList.length = pre.length + (u.length + 1) := by rw [h]; simp
  have hz : pre.length < s.size := by have := size_tl s; omega
  unfold bt
  rw [dif_pos (by simpa using hz)]
  have e : s[((pre.length : Nat) : Int).toNat]'(by simpa using hz) = s.data.toList[pre.length]'(by omega) := by simp [ByteArray.getElem_eq_getElem_data]
  rw [e]
  have e2 : s.data.toList[pre.length]'(by omega) = c := by simp only [h]; simp
  rw [e2]
theorem pu_app (l : List UInt8) : ∀ (acc u : Nat) (r : List UInt8), Lib.parseUint10 acc l = .ok u → Lib.parseUint10 acc (l ++ r) = Lib.parseUint10 u r := by
  induction l with
  | nil => intro acc u r h; simp only [Lib.parseUint10] at h; injection h with h; subst h; rfl
  | cons c l ih =>
    intro acc u r h
    simp only [Lib.parseUint10] at h
    split at h
    · rename_i hc
      split at h
      · cases h
      · rename_i h1
        split at h
        · cases h
        · rename_i h2
          rw [List.cons_append]
          simp only [Lib.parseUint10]
          rw [if_pos hc, if_neg h1, if_neg h2]
          exact ih _ _ _ h
    · cases h
theorem fig_nat (n : Nat) (h : n < 10) : (UInt8.ofNat (48 + n)).toNat = 48 + n := UInt8.toNat_ofNat_of_lt' (by show 48 + n < 256; omega)
theorem pu_dec (n : Nat) : n < 18446744073709551616 → Lib.parseUint10 0 (Lib.decDigits n) = .ok n := by
  induction n using Nat.strongRecOn with
  | _ n ih =>
    intro h
    by_cases c : n < 10
    · rw [Lib.decDigits_one c]
      simp only [Lib.parseUint10, fig_nat n c]
      rw [if_pos (by omega), if_neg (by omega), if_neg (by omega)]
      congr 1; omega
    · rw [Lib.decDigits, dif_neg c, pu_app _ _ _ _ (ih (n / 10) (by omega) (by omega))]
      simp only [Lib.parseUint10, fig_nat (n % 10) (by omega)]
      rw [if_pos (by omega), if_neg (by omega), if_neg (by omega)]
      congr 1; omega
theorem dec_digit (n : Nat) : ∀ c ∈ Lib.decDigits n, 48 ≤ c.toNat ∧ c.toNat ≤ 57 := by
  induction n using Nat.strongRecOn with
  | _ n ih =>
    intro c hc
    by_cases d : n < 10
    · rw [Lib.decDigits_one d] at hc
      obtain rfl := List.mem_singleton.1 hc
      rw [fig_nat n d]; omega
    · rw [Lib.decDigits, dif_neg d] at hc
      rcases List.mem_append.1 hc with hc | hc
      · exact ih (n / 10) (by omega) c hc
      · obtain rfl := List.mem_singleton.1 hc
        rw [fig_nat (n % 10) (by omega)]; omega
theorem dec_ne (n : Nat) : Lib.decDigits n ≠ [] := by
  intro e
  have h := Lib.decDigits_length n
  rw [e] at h
  have := Lib.nDigits_pos n
  simp at h
  omega
theorem dec_len (n : Nat) (h : n < 10000000000) : (Lib.decDigits n).length ≤ 10 := by
  rw [Lib.decDigits_length]
  have hb : ∀ (k u : Nat), u < 10 ^ (k + 1) → Lib.nDigits u ≤ k + 1 := by
    intro k
    induction k with
    | zero => intro u hu; rw [Lib.nDigits_small (by simpa using hu)]; omega
    | succ k ih =>
      intro u hu
      by_cases c : u < 10
      · rw [Lib.nDigits_small c]; omega
      · rw [Lib.nDigits_big c]
        have := ih (u / 10) (by rw [Nat.pow_succ] at hu; omega)
        omega
  exact hb 9 n (by simpa using h)
theorem atoi_dec (n : Nat) (h : n < 9223372036854775808) : Lib.atoiAll (Lib.decDigits n) = .ok (n : Int) := by
  cases e : Lib.decDigits n with
  | nil => exact absurd e (dec_ne n)
  | cons c r =>
    have hc := dec_digit n c (by rw [e]; simp)
    rw [Lib.atoiAll_plain c r (by omega) (by omega), ← e]
    unfold Lib.parseMag
    rw [if_neg (dec_ne n), pu_dec n (by omega)]
    simp only [Lib.signless]
    rw [if_neg (by omega)]
/-- The number that digits spell. -/
def dval (acc : Nat) (l : List UInt8) : Nat := l.foldl (fun a c => 10 * a + (c.toNat - 48)) acc
theorem dval_dec (n : Nat) : dval 0 (Lib.decDigits n) = n := by
  induction n using Nat.strongRecOn with
  | _ n ih =>
    by_cases c : n < 10
    · rw [Lib.decDigits_one c]
      simp only [dval, List.foldl_cons, List.foldl_nil, fig_nat n c]; omega
    · have h := ih (n / 10) (by omega)
      unfold dval at h ⊢
      rw [Lib.decDigits, dif_neg c, List.foldl_append, h]
      simp only [List.foldl_cons, List.foldl_nil, fig_nat (n % 10) (by omega)]; omega
/-- What ParseUint gives. -/
def puv (l : List UInt8) : Int × Bool := if dval 0 l ≤ 1000000000 ∧ Lib.decDigits (dval 0 l) = l then ((dval 0 l : Int), true) else (0, false)
theorem puv_of (n : Nat) (h : n ≤ 1000000000) : puv (Lib.decDigits n) = ((n : Int), true) := by
  unfold puv
  rw [dval_dec, if_pos ⟨h, rfl⟩]
theorem itoa_nat (n : Nat) : Lib.itoa (n : Int) = Lib.decDigits n := Lib.itoa_nonneg n
theorem data_back (s : ByteArray) : (⟨s.data.toList.toArray⟩ : ByteArray) = s := by cases s; simp
theorem nd_le : ∀ (k u : Nat), u < 10 ^ (k + 1) → Lib.nDigits u ≤ k + 1 := by
  intro k
  induction k with
  | zero => intro u hu; rw [Lib.nDigits_small (by simpa using hu)]; omega
  | succ k ih =>
    intro u hu
    by_cases c : u < 10
    · rw [Lib.nDigits_small c]; omega
    · rw [Lib.nDigits_big c]
      have := ih (u / 10) (by rw [Nat.pow_succ] at hu; omega)
      omega
theorem itoa_len {n : Int} (h0 : -9223372036854775808 ≤ n) (h1 : n ≤ 9223372036854775807) : (Lib.itoa n).length ≤ 20 := by
  have hp : (9223372036854775808 : Nat) < 10 ^ 19 := by decide
  unfold Lib.itoa
  split
  · rw [List.length_cons, Lib.decDigits_length]
    have := nd_le 18 n.natAbs (by show n.natAbs < 10 ^ 19; omega)
    omega
  · rw [Lib.decDigits_length]
    have := nd_le 18 n.toNat (by show n.toNat < 10 ^ 19; omega)
    omega
/-- The place of a cursor lies in its bytes. -/
structure OkC (l : List Int) (i : Int) : Prop where
  lo : 0 ≤ i
  hi : i ≤ l.length
  sz : (l.length : Int) ≤ 140737488351232
theorem byte_tells {l : List Int} {i : Int} (h : Int) (ok : OkC l i) : ∃ x i' h', spec_l01Byte.f l i h = some (x, i', h') ∧ OkC l i' ∧ 0 ≤ x ∧ x ≤ 255 := by
  obtain ⟨lo, hi, sz⟩ := ok
  unfold spec_l01Byte.f
  by_cases h1 : i < (l.length : Int)
  · rw [if_pos h1, if_pos lo]
    refine ⟨_, _, _, rfl, ?_, and255 _⟩
    rw [w64 (by omega) (by omega)]
    exact ⟨by omega, by omega, sz⟩
  · rw [if_neg h1]
    exact ⟨_, _, _, rfl, ⟨lo, hi, sz⟩, and255 _⟩
theorem below_tells {l : List Int} {i : Int} (h n : Int) (ok : OkC l i) (hn : 1 ≤ n) : ∃ x i' h', spec_l01Below.f l i h n = some (x, i', h') ∧ OkC l i' ∧ 0 ≤ x ∧ x < n := by
  unfold spec_l01Below.f
  rw [if_neg (by omega)]
  by_cases h1 : n ≤ 256
  · rw [if_pos h1]
    obtain ⟨x, i1, g1, e1, ok1, x0, x1⟩ := byte_tells h ok
    rw [e1]
    simp only [Option.bind_some]
    rw [if_neg (by omega)]
    exact ⟨_, _, _, rfl, ok1, tmod_in _ _ x0 hn⟩
  · rw [if_neg h1]
    obtain ⟨x, i1, g1, e1, ok1, x0, x1⟩ := byte_tells h ok
    obtain ⟨y, i2, g2, e2, ok2, y0, y1⟩ := byte_tells g1 ok1
    obtain ⟨z, i3, g3, e3, ok3, z0, z1⟩ := byte_tells g2 ok2
    obtain ⟨v, i4, g4, e4, ok4, v0, v1⟩ := byte_tells g3 ok3
    rw [e1]; simp only [Option.bind_some]
    rw [e2]; simp only [Option.bind_some]
    rw [e3]; simp only [Option.bind_some]
    rw [e4]; simp only [Option.bind_some]
    rw [if_neg (by omega)]
    refine ⟨_, _, _, rfl, ok4, tmod_in _ _ ?_ hn⟩
    rw [w64 (n := x * 16777216) (by omega) (by omega), w64 (n := y * 65536) (by omega) (by omega), w64 (n := z * 256) (by omega) (by omega)]
    rw [w64 (n := x * 16777216 + y * 65536) (by omega) (by omega), w64 (n := x * 16777216 + y * 65536 + z * 256) (by omega) (by omega)]
    rw [w64 (by omega) (by omega)]
    omega
theorem once_tells {l : List Int} {i : Int} (h n : Int) (ok : OkC l i) (hn : 1 ≤ n) : ∃ x i' h', spec_l01Once.f l i h n = some (x, i', h') ∧ OkC l i' := by
  obtain ⟨x, i1, g1, e1, ok1, _⟩ := below_tells h n ok hn
  unfold spec_l01Once.f
  rw [e1]
  exact ⟨_, _, _, rfl, ok1⟩
theorem rd_mem (xs : List Int) (i : Int) (h0 : 0 ≤ i) (h1 : i < (xs.length : Int)) : rd xs i ∈ xs := by
  have h : i.toNat < xs.length := by omega
  unfold Go.Proofs.YtcpmkcidehhbiaaDoorW.PrintWords.rd
  rw [List.getD_eq_getElem?_getD, List.getElem?_eq_getElem h]
  exact List.getElem_mem h
theorem pick_tells {l : List Int} {i : Int} (h : Int) (xs : List Int) (ok : OkC l i) (hn : 1 ≤ xs.length) : ∃ x i' h', spec_l01PickInt.f l i h xs = some (x, i', h') ∧ OkC l i' ∧ x ∈ xs := by
  obtain ⟨x, i1, g1, e1, ok1, x0, x1⟩ := below_tells h (xs.length : Int) ok (by omega)
  unfold spec_l01PickInt.f
  rw [e1]
  simp only [Option.bind_some]
  rw [if_pos x0, if_pos x1]
  exact ⟨_, _, _, rfl, ok1, rd_mem xs x x0 x1⟩
theorem new_loop (l : List Int) (sz : (l.length : Int) ≤ 140737488351232) (d : Nat) : ∀ (k : Nat) (h i : Int), 0 ≤ i → i ≤ l.length → (l.length : Int) - i = d → d < k → ∃ g, spec_l01New.l0 k l h i = some (l, 0, g) := by
  induction d with
  | zero =>
    intro k h i h0 h1 hd hk
    obtain ⟨k, rfl⟩ : ∃ m, k = m + 1 := ⟨k - 1, by omega⟩
    exact ⟨h, by simp only [spec_l01New.l0]; rw [if_neg (by omega)]⟩
  | succ d ih =>
    intro k h i h0 h1 hd hk
    obtain ⟨k, rfl⟩ : ∃ m, k = m + 1 := ⟨k - 1, by omega⟩
    simp only [spec_l01New.l0]
    rw [if_pos (by omega)]
    by_cases c : i < 4000
    · rw [if_pos c, if_pos h0, w64 (n := i + 1) (by omega) (by omega)]
      exact ih k _ (i + 1) (by omega) (by omega) (by omega) (by omega)
    · rw [if_neg c]; exact ⟨h, rfl⟩
theorem new_tells (l : List Int) (sz : (l.length : Int) ≤ 140737488351232) : ∃ g, ∀ k, l.length < k → spec_l01New.f k l = some (l, 0, g) := by
  obtain ⟨g, e⟩ := new_loop l sz l.length (l.length + 1) (wrap64 (98347 + (l.length : Int))) 0 (by omega) (by omega) (by omega) (by omega)
  exact ⟨g, fun k hk => at_rounds (fun k => spec_l01New.mono l k) (by omega : l.length + 1 ≤ k) e⟩
theorem ok_start {l : List Int} (sz : (l.length : Int) ≤ 140737488351232) : OkC l 0 := ⟨by omega, by omega, sz⟩
theorem ifmt (n : Int) (h0 : -9223372036854775808 ≤ n) (h1 : n ≤ 9223372036854775807) : impl_FormatInt.f n = some ⟨(Lib.itoa n).toArray⟩ := by
  unfold impl_FormatInt.f
  rw [if_pos ⟨h0, h1⟩]
def dg (c : UInt8) : Bool := decide (48 ≤ c.toNat ∧ c.toNat ≤ 57)
theorem puv_digits (l : List UInt8) (h : l.all dg = false) : puv l = (0, false) := by
  unfold puv
  rw [if_neg]
  rintro ⟨_, e⟩
  have : l.all dg = true := by
    rw [← e, List.all_eq_true]
    intro c hc
    exact decide_eq_true (dec_digit _ c hc)
  rw [this] at h; cases h
theorem puv_long (l : List UInt8) (h : 10 < l.length) : puv l = (0, false) := by
  unfold puv
  rw [if_neg]
  rintro ⟨h1, e⟩
  have := dec_len (dval 0 l) (by omega)
  rw [e] at this; omega
theorem ipu (s : ByteArray) (hs : s.size ≤ 281474976710656) : impl_ParseUint.f s = some (puv s.data.toList) := by
  unfold impl_ParseUint.f
  rw [if_pos hs]
  congr 1
  have key : ∀ v : Int, 0 ≤ v ∧ v ≤ 1000000000 → (⟨(Lib.itoa v).toArray⟩ : ByteArray) = s → puv s.data.toList = (v, true) := by
    intro v hv e
    obtain ⟨n, rfl⟩ : ∃ n : Nat, v = (n : Int) := ⟨v.toNat, by omega⟩
    rw [← e, itoa_nat]
    exact puv_of n (by omega)
  have key2 : ∀ n : Nat, n ≤ 1000000000 → Lib.decDigits n = s.data.toList → Lib.atoiAll s.data.toList = .ok (n : Int) ∧ (⟨(Lib.itoa (n : Int)).toArray⟩ : ByteArray) = s := by
    intro n hn e
    rw [← e, atoi_dec n (by omega), itoa_nat, e]
    exact ⟨rfl, by cases s; simp⟩
  by_cases c : dval 0 s.data.toList ≤ 1000000000 ∧ Lib.decDigits (dval 0 s.data.toList) = s.data.toList
  · obtain ⟨h1, h2⟩ := key2 _ c.1 c.2
    rw [h1]
    simp only []
    rw [if_pos ⟨by omega, by omega, h2⟩]
    unfold puv
    rw [if_pos c]
  · have hp : puv s.data.toList = (0, false) := by unfold puv; rw [if_neg c]
    rw [hp]
    split
    · rename_i v hv
      rw [if_neg]
      rintro ⟨h0, h1, e⟩
      have := key v ⟨h0, h1⟩ e
      rw [hp] at this
      have := (Prod.mk.inj this).2
      cases this
    · rfl
theorem number_tells {l : List Int} {i : Int} (h : Int) (ok : OkC l i) : ∃ x i' h', spec_l01Number.f l i h = some (x, i', h') ∧ OkC l i' ∧ -9223372036854775808 ≤ x ∧ x ≤ 9223372036854775807 := by
  obtain ⟨b, i1, g1, e1, ok1, b0, b1⟩ := below_tells h 4 ok (by omega)
  unfold spec_l01Number.f
  rw [e1]
  simp only [Option.bind_some]
  by_cases c : b = 0
  · rw [if_pos c]
    obtain ⟨x, i2, g2, e2, ok2, hx⟩ := pick_tells g1 [(-1), 0, 127, 128, 16383, 16384, 1000000000, 1000000001, 9223372036854775807, (-9223372036854775808)] ok1 (by simp)
    rw [e2]
    simp only [List.mem_cons, List.not_mem_nil, or_false] at hx
    exact ⟨_, _, _, rfl, ok2, by omega, by omega⟩
  · rw [if_neg c]
    by_cases c : b = 1
    · rw [if_pos c]
      obtain ⟨x, i2, g2, e2, ok2, hx⟩ := below_tells g1 1000000000 ok1 (by omega)
      rw [e2]
      exact ⟨_, _, _, rfl, ok2, by omega, by omega⟩
    · rw [if_neg c]
      obtain ⟨x, i2, g2, e2, ok2, hx⟩ := below_tells g1 400 ok1 (by omega)
      rw [e2]
      exact ⟨_, _, _, rfl, ok2, by omega, by omega⟩
theorem drawFmt_tells (l : List Int) (sz : (l.length : Int) ≤ 140737488351232) : ∃ a, (∀ k, l.length < k → spec_DrawFormatInt.f k l = some a) ∧ -9223372036854775808 ≤ a ∧ a ≤ 9223372036854775807 := by
  obtain ⟨g, e⟩ := new_tells l sz
  obtain ⟨b, i1, g1, e1, ok1⟩ := once_tells g 3 (ok_start sz) (by omega)
  by_cases c : b = true
  · obtain ⟨x, i2, g2, e2, ok2, x0, x1⟩ := below_tells g1 1000000 ok1 (by omega)
    obtain ⟨y, i3, g3, e3, ok3, y0, y1⟩ := below_tells g2 2000000 ok2 (by omega)
    refine ⟨wrap64 (x * wrap64 (y - 1000000)), fun k hk => ?_, w64_in _⟩
    unfold spec_DrawFormatInt.f
    rw [e k hk]
    simp only [Option.bind_some, e1]
    rw [if_pos c]
    simp only [Option.bind_some, e2, e3]
  · obtain ⟨x, i2, g2, e2, ok2, hx⟩ := number_tells g1 ok1
    refine ⟨x, fun k hk => ?_, hx⟩
    unfold spec_DrawFormatInt.f
    rw [e k hk]
    simp only [Option.bind_some, e1]
    rw [if_neg c]
    simp only [Option.bind_some, e2]
theorem puv_itoa (n : Int) : puv (Lib.itoa n) = if 0 ≤ n ∧ n ≤ 1000000000 then (n, true) else (0, false) := by
  by_cases h0 : 0 ≤ n
  · obtain ⟨m, rfl⟩ : ∃ m : Nat, n = (m : Int) := ⟨n.toNat, by omega⟩
    rw [itoa_nat]
    by_cases c : m ≤ 1000000000
    · rw [puv_of m c, if_pos ⟨by omega, by omega⟩]
    · unfold puv
      rw [dval_dec, if_neg (fun z => c z.1), if_neg (by omega)]
  · rw [if_neg (by omega)]
    apply puv_digits
    unfold Lib.itoa
    rw [if_pos (by omega)]
    rfl
theorem itoa_ne (n : Int) : Lib.itoa n ≠ [] := by
  unfold Lib.itoa
  split
  · simp
  · exact dec_ne _
theorem FnNumbers : laws_FnNumbers.Pure := by
  intro l _ hl _
  obtain ⟨n, en, hn⟩ := drawFmt_tells l (by omega)
  refine ⟨l.length + 1, ?_⟩
  unfold laws_FnNumbers.f laws_big.f
  rw [en _ (by omega)]
  simp only [Option.bind_some]
  split
  · rfl
  · have hz : (ByteArray.mk (Lib.itoa n).toArray).size ≤ 281474976710656 := by
      have h := size_tl (ByteArray.mk (Lib.itoa n).toArray)
      have h2 := itoa_len hn.1 hn.2
      rw [h]
      show (Lib.itoa n).length ≤ _
      omega
    rw [ifmt n hn.1 hn.2]
    simp only [Option.bind_some]
    rw [ipu _ hz, ByteArray.toList_eq]
    have e : (ByteArray.mk (Lib.itoa n).toArray).data.toList = Lib.itoa n := rfl
    rw [e, puv_itoa]
    simp only [Option.bind_some, if_neg (itoa_ne n)]
    by_cases h0 : 0 ≤ n
    · by_cases c : n ≤ 1000000000
      · simp [h0, c]
      · simp [h0, c]
    · simp [h0]

end Go.Proofs.YtcpmkcidehhbiaaDoor.Pure
