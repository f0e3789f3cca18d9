/- The program's FormatInt and the reference's return the same text for all integers; the row's tables of the library hold what the card ties. -/
import Derived.Test.YtcpmkcidehhbiaaDoorPFnExactFormatIntx1
import Derived.Laws.Concat
namespace Go.Proofs.YtcpmkcidehhbiaaDoor.Pure
open Go.RowKit Go.Proofs.YtcpmkcidehhbiaaDoor.PFnExactFormatInt Go.Proofs.YtcpmkcidehhbiaaDoorW.PrintWords Go.Proofs.YtcpmkcidehhbiaaDoorW.PrintLast
set_option linter.unusedVariables false
set_option linter.unusedSimpArgs false

theorem w64 {n : Int} (h1 : -9223372036854775808 ≤ n) (h2 : n ≤ 9223372036854775807) : wrap64 n = n := by unfold wrap64; omega
theorem w64_in (n : Int) : -9223372036854775808 ≤ wrap64 n ∧ wrap64 n ≤ 9223372036854775807 := by unfold wrap64; omega
theorem wf64 {n : Int} (h : (Lit.int .i64 n).wf = true) : -9223372036854775808 ≤ n ∧ n ≤ 9223372036854775807 := by
  simp only [Lit.wf, IntKind.min, IntKind.max, IntKind.signed, IntKind.bits, Bool.and_eq_true, decide_eq_true_eq, if_true] at h
  omega
theorem wfu8 {n : Int} (h : (Lit.int .u8 n).wf = true) : 0 ≤ n ∧ n ≤ 255 := by
  simp [Lit.wf, IntKind.min, IntKind.max, IntKind.signed, IntKind.bits] at h
  omega
theorem and_in (x : Int) (m : Nat) (hm : m < 9223372036854775808) : 0 ≤ Go.bits .and .i64 x (m : Int) ∧ Go.bits .and .i64 x (m : Int) ≤ m := by
  have h1 : (BitVec.ofInt 64 x &&& BitVec.ofInt 64 (m : Int)).toNat ≤ m := by
    rw [BitVec.toNat_and]
    refine Nat.le_trans Nat.and_le_right ?_
    rw [BitVec.ofInt_natCast, BitVec.toNat_ofNat]
    exact Nat.mod_le _ _
  have h2 : Go.bits .and .i64 x (m : Int) = IntKind.i64.wrap (((BitVec.ofInt 64 x &&& BitVec.ofInt 64 (m : Int)).toNat : Nat) : Int) := rfl
  rw [h2, Go.IntKind.wrap_i64]
  omega
theorem and255 (x : Int) : 0 ≤ Go.bits .and .i64 x 255 ∧ Go.bits .and .i64 x 255 ≤ 255 := and_in x 255 (by decide)
theorem tmod_in (x n : Int) (h0 : 0 ≤ x) (h : 1 ≤ n) : 0 ≤ Int.tmod x n ∧ Int.tmod x n < n := ⟨Int.tmod_nonneg _ h0, Int.tmod_lt_of_pos _ (by omega)⟩
/-- The digits of u, none of nought. -/
def dgs (u : Nat) : List UInt8 := if u = 0 then [] else Lib.decDigits u
theorem dgs_step (u : Nat) (h : 1 ≤ u) : dgs u = dgs (u / 10) ++ [UInt8.ofNat (48 + u % 10)] := by
  unfold dgs
  rw [if_neg (by omega)]
  by_cases c : u < 10
  · rw [Lib.decDigits_one c, if_pos (by omega)]
    rw [show u % 10 = u by omega]; rfl
  · rw [if_neg (by omega)]
    conv => lhs; rw [Lib.decDigits, dif_neg c]
theorem fig1 (v : Nat) (h : v < 10) : spec_l01Figure.f (v : Int) = some (((48 + v : Nat) : Int)) := by
  unfold spec_l01Figure.f
  rw [if_pos (by omega), w64 (by omega) (by omega)]
  congr 1; omega
theorem fmt_loop (b : Bool) (k : Nat) : ∀ (x : Int) (u : Nat) (l : List UInt8), x = u ∨ x = -(u : Int) → u < 10 ^ k → u ≤ 9223372036854775808 → l.length + k ≤ 40 → x ≤ 9223372036854775807 →
    spec_FormatInt.l0 (k + 1) x b ⟨l.toArray⟩ = some (if b = true then ⟨(45 :: (dgs u ++ l)).toArray⟩ else ⟨(dgs u ++ l).toArray⟩) := by
  induction k with
  | zero =>
    intro x u l hx hu _ hl _
    have h0 : u = 0 := by simpa using hu
    have hx0 : x = 0 := by omega
    simp only [spec_FormatInt.l0]
    rw [if_pos hx0, h0]
    have hz : (ByteArray.mk l.toArray).size = l.length := by simp [ByteArray.size]
    have e : (⟨#[45]⟩ : ByteArray) ++ ⟨l.toArray⟩ = ⟨(45 :: l).toArray⟩ := ByteArray.mk_append_mk [45] l
    have hc : 1 + (ByteArray.mk l.toArray).size ≤ 9223372036854775807 := by rw [hz]; omega
    rw [e, if_pos hc]
    have : dgs 0 ++ l = l := rfl
    rw [this]
    cases b <;> rfl
  | succ k ih =>
    intro x u l hx hu hu2 hl hx2
    obtain ⟨m, hm⟩ : ∃ m, m = k + 1 := ⟨_, rfl⟩
    rw [← hm] at ih ⊢
    have hz : (ByteArray.mk l.toArray).size = l.length := by simp [ByteArray.size]
    by_cases h0 : u = 0
    · have hx0 : x = 0 := by omega
      simp only [spec_FormatInt.l0]
      rw [if_pos hx0, h0]
      have e : (⟨#[45]⟩ : ByteArray) ++ ⟨l.toArray⟩ = ⟨(45 :: l).toArray⟩ := ByteArray.mk_append_mk [45] l
      have hc : 1 + (ByteArray.mk l.toArray).size ≤ 9223372036854775807 := by rw [hz]; omega
      rw [e, if_pos hc]
      have : dgs 0 ++ l = l := rfl
      rw [this]
      cases b <;> rfl
    · have hs := dgs_step u (by omega)
      have hv : u % 10 < 10 := Nat.mod_lt _ (by omega)
      have hd : u / 10 < 10 ^ k := by rw [Nat.div_lt_iff_lt_mul (by omega)]; rw [Nat.pow_succ] at hu; exact hu
      have hS : strOfNums [((48 + u % 10 : Nat) : Int)] = ⟨[UInt8.ofNat (48 + u % 10)].toArray⟩ := by unfold strOfNums; rw [List.map_cons, List.map_nil, Int.toNat_natCast]
      have e : strOfNums [((48 + u % 10 : Nat) : Int)] ++ (⟨l.toArray⟩ : ByteArray) = ⟨(UInt8.ofNat (48 + u % 10) :: l).toArray⟩ := by rw [hS]; exact ByteArray.mk_append_mk _ l
      have hsz : (strOfNums [((48 + u % 10 : Nat) : Int)]).size = 1 := by rw [strOfNums_size]; rfl
      have ht : dgs (u / 10) ++ (UInt8.ofNat (48 + u % 10) :: l) = dgs u ++ l := by rw [hs]; simp
      simp only [spec_FormatInt.l0]
      rw [if_neg (by omega)]
      rcases hx with hx | hx
      · have h1 : Int.tmod x 10 = ((u % 10 : Nat) : Int) := by rw [hx, Int.tmod_eq_emod_of_nonneg (by omega)]; rfl
        have h2 : Int.tdiv x 10 = ((u / 10 : Nat) : Int) := by rw [hx, Int.tdiv_eq_ediv_of_nonneg (by omega)]; rfl
        rw [h1, h2, if_neg (by omega), fig1 _ hv]
        simp only [Option.bind_some]
        rw [hsz, hz, if_pos (by omega), w64 (by omega) (by omega), e, ih _ (u / 10) _ (Or.inl rfl) hd (by omega) (by simp only [List.length_cons]; omega) (by omega), ht]
      · have h1 : Int.tmod x 10 = -((u % 10 : Nat) : Int) := by rw [hx, Int.neg_tmod, Int.tmod_eq_emod_of_nonneg (by omega)]; rfl
        have h2 : Int.tdiv x 10 = -((u / 10 : Nat) : Int) := by rw [hx, Int.neg_tdiv, Int.tdiv_eq_ediv_of_nonneg (by omega)]; rfl
        rw [h1, h2]
        by_cases c : u % 10 = 0
        · have hf := fig1 0 (by omega)
          rw [if_neg (by omega), c, show -((0 : Nat) : Int) = ((0 : Nat) : Int) from rfl, hf]
          simp only [Option.bind_some]
          rw [c] at hsz e ht
          rw [hsz, hz, if_pos (by omega), w64 (by omega) (by omega), e, ih _ (u / 10) _ (Or.inr rfl) hd (by omega) (by simp only [List.length_cons]; omega) (by omega), ht]
        · rw [if_pos (by omega), w64 (n := - -((u % 10 : Nat) : Int)) (by omega) (by omega), Int.neg_neg, fig1 _ hv]
          simp only [Option.bind_some]
          rw [hsz, hz, if_pos (by omega), w64 (by omega) (by omega), e, ih _ (u / 10) _ (Or.inr rfl) hd (by omega) (by simp only [List.length_cons]; omega) (by omega), ht]
theorem sfmt (n : Int) (h0 : -9223372036854775808 ≤ n) (h1 : n ≤ 9223372036854775807) (k : Nat) (hk : 20 ≤ k) : spec_FormatInt.f k n = some ⟨(Lib.itoa n).toArray⟩ := by
  have hp : (9223372036854775808 : Nat) < 10 ^ 19 := by decide
  unfold spec_FormatInt.f Lib.itoa
  by_cases c : n = 0
  · rw [if_pos c, c, if_neg (by omega), show (0 : Int).toNat = 0 from rfl, Lib.decDigits_one (by omega)]; rfl
  · rw [if_neg c]
    have h := fmt_loop (decide (n < 0)) 19 n n.natAbs [] (by omega) (by omega) (by omega) (by simp) h1
    have e : (⟨#[]⟩ : ByteArray) = ⟨([] : List UInt8).toArray⟩ := rfl
    rw [e, at_rounds (fun k => spec_FormatInt.mono_l k _ _ _) (by omega : 19 + 1 ≤ k) h, List.append_nil]
    have hd : dgs n.natAbs = Lib.decDigits n.natAbs := by unfold dgs; rw [if_neg (by omega)]
    rw [hd]
    by_cases d : n < 0
    · rw [if_pos (decide_eq_true d), if_pos d]
    · rw [if_neg (by simp; omega), if_neg d, show n.natAbs = n.toNat by omega]
theorem ifmt (n : Int) (h0 : -9223372036854775808 ≤ n) (h1 : n ≤ 9223372036854775807) : impl_FormatInt.f n = some ⟨(Lib.itoa n).toArray⟩ := by
  unfold impl_FormatInt.f
  rw [if_pos ⟨h0, h1⟩]
theorem FnExactFormatInt : laws_FnExactFormatInt.Pure := by
  intro n h
  have hw := wf64 h
  refine ⟨30, ?_⟩
  unfold laws_FnExactFormatInt.f
  rw [sfmt n hw.1 hw.2 30 (by omega), ifmt n hw.1 hw.2]
  simp

end Go.Proofs.YtcpmkcidehhbiaaDoor.Pure
