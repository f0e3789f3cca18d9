/- A text can be decoded from its hexadecimal encoding, and longer texts are rejected, at every draw; the row's tables of the library hold what the card ties. -/
import Derived.Test.YtcpmkcidehhbiaaDoorPFnHexTextx3
import Derived.Laws.Concat
import Derived.Laws.Strings
import Derived.Lib.ItoaMem
namespace Go.Proofs.YtcpmkcidehhbiaaDoor.Pure
open Go.RowKit Go.Proofs.YtcpmkcidehhbiaaDoor.PFnHexText Go.Proofs.YtcpmkcidehhbiaaDoorW.PrintWords Go.Proofs.YtcpmkcidehhbiaaDoorW.PrintLast
set_option linter.unusedVariables false
set_option linter.unusedSimpArgs false

theorem w64 {n : Int} (h1 : -9223372036854775808 ≤ n) (h2 : n ≤ 9223372036854775807) : wrap64 n = n := by unfold wrap64; omega
theorem w64_in (n : Int) : -9223372036854775808 ≤ wrap64 n ∧ wrap64 n ≤ 9223372036854775807 := by unfold wrap64; omega
theorem wf64 {n : Int} (h : (Lit.int .i64 n).wf = true) : -9223372036854775808 ≤ n ∧ n ≤ 9223372036854775807 := by
  simp only [Lit.wf, IntKind.min, IntKind.max, IntKind.signed, IntKind.bits, Bool.and_eq_true, decide_eq_true_eq, if_true] at h
  omega
theorem wfu8 {n : Int} (h : (Lit.int .u8 n).wf = true) : 0 ≤ n ∧ n ≤ 255 := by
  simp [Lit.wf, IntKind.min, IntKind.max, IntKind.signed, IntKind.bits] at h
  omega
theorem and_in (x : Int) (m : Nat) (hm : m < 9223372036854775808) : 0 ≤ Go.bits .and .i64 x (m : Int) ∧ Go.bits .and .i64 x (m : Int) ≤ m := by
  have h1 : (BitVec.ofInt 64 x &&& BitVec.ofInt 64 (m : Int)).toNat ≤ m := by
    rw [BitVec.toNat_and]
    refine Nat.le_trans Nat.and_le_right ?_
    rw [BitVec.ofInt_natCast, BitVec.toNat_ofNat]
    exact Nat.mod_le _ _
  have h2 : Go.bits .and .i64 x (m : Int) = IntKind.i64.wrap (((BitVec.ofInt 64 x &&& BitVec.ofInt 64 (m : Int)).toNat : Nat) : Int) := rfl
  rw [h2, Go.IntKind.wrap_i64]
  omega
theorem and255 (x : Int) : 0 ≤ Go.bits .and .i64 x 255 ∧ Go.bits .and .i64 x 255 ≤ 255 := and_in x 255 (by decide)
theorem tmod_in (x n : Int) (h0 : 0 ≤ x) (h : 1 ≤ n) : 0 ≤ Int.tmod x n ∧ Int.tmod x n < n := ⟨Int.tmod_nonneg _ h0, Int.tmod_lt_of_pos _ (by omega)⟩
/-- A text out of its bytes. -/
def tx (l : List UInt8) : ByteArray := ⟨l.toArray⟩
theorem tx_size (l : List UInt8) : (tx l).size = l.length := by simp [tx, ByteArray.size]
theorem tx_list (l : List UInt8) : (tx l).data.toList = l := rfl
theorem tx_app (a b : List UInt8) : tx a ++ tx b = tx (a ++ b) := by unfold tx; exact ByteArray.mk_append_mk _ _
theorem tx_back (s : ByteArray) : tx s.data.toList = s := by cases s; simp [tx]
theorem size_tl (s : ByteArray) : s.size = s.data.toList.length := (Array.length_toList).symm
theorem tl_eq (a b : ByteArray) : a.toList = b.toList ↔ a.data.toList = b.data.toList := by rw [ByteArray.toList_eq, ByteArray.toList_eq]
theorem tx_inj (a b : List UInt8) : tx a = tx b ↔ a = b := by
  constructor
  · intro h
    have := congrArg (fun s : ByteArray => s.data.toList) h
    simpa [tx] using this
  · rintro rfl; rfl
theorem bt_tx (s : ByteArray) (pre : List UInt8) (c : UInt8) (u : List UInt8) (h : s.data.toList = pre ++ c :: u) : bt s (pre.length : Int) = (c.toNat : Int) := by
  have hl : s.data.toList.length = pre.length + (u.length + 1) := by rw [h]; simp
  have hz : pre.length < s.size := by have := size_tl s; omega
  unfold bt
  rw [dif_pos (by simpa using hz)]
  have e : s[((pre.length : Nat) : Int).toNat]'(by simpa using hz) = s.data.toList[pre.length]'(by omega) := by simp [ByteArray.getElem_eq_getElem_data]
  rw [e]
  have e2 : s.data.toList[pre.length]'(by omega) = c := by simp only [h]; simp
  rw [e2]
def hx (x : Int) : Int := if x < 10 then 48 + x else 87 + x
theorem hx_range {x : Int} (h0 : 0 ≤ x) (h1 : x < 16) : 48 ≤ hx x ∧ hx x ≤ 102 := by unfold hx; split <;> omega
theorem tab16 : ∀ n : Fin 16, bt (⟨#[48, 49, 50, 51, 52, 53, 54, 55, 56, 57, 97, 98, 99, 100, 101, 102]⟩ : ByteArray) (n.val : Int) = hx (n.val : Int) := by decide
theorem tab {x : Int} (h0 : 0 ≤ x) (h1 : x < 16) : bt (⟨#[48, 49, 50, 51, 52, 53, 54, 55, 56, 57, 97, 98, 99, 100, 101, 102]⟩ : ByteArray) x = hx x := by
  have h := tab16 ⟨x.toNat, by omega⟩
  have e : ((x.toNat : Nat) : Int) = x := Int.toNat_of_nonneg h0
  simp only [e] at h
  exact h
/-- A text's bytes, as numbers. -/
def nms (s : ByteArray) : List Int := s.data.toList.map fun b => (b.toNat : Int)
theorem nms_len (s : ByteArray) : (nms s).length = s.size := by unfold nms; rw [List.length_map]; exact Array.length_toList
theorem nms_back (s : ByteArray) : strOfNums (nms s) = s := by
  have h : (nms s).map (fun n => UInt8.ofNat n.toNat) = s.data.toList := by
    unfold nms
    rw [List.map_map]
    conv => rhs; rw [← List.map_id s.data.toList]
    apply List.map_congr_left
    intro b _
    simp
  unfold strOfNums
  rw [h]
theorem bt_nms (s : ByteArray) (i : Nat) (h : i < s.size) : bt s (i : Int) = (nms s).getD i 0 := by
  unfold bt nms
  rw [dif_pos (by simpa using h)]
  have h2 : i < s.data.toList.length := by rw [← size_tl]; exact h
  rw [List.getD_eq_getElem?_getD, List.getElem?_map, List.getElem?_eq_getElem h2]
  rfl
theorem nms_range (s : ByteArray) : ∀ b ∈ nms s, 0 ≤ b ∧ b ≤ 255 := by
  intro b hb
  obtain ⟨u, _, rfl⟩ := List.mem_map.1 hb
  have := u.toNat_lt
  omega
theorem bt_str (l : List Int) (hl : ∀ b ∈ l, 0 ≤ b ∧ b ≤ 255) (i : Nat) (h : i < l.length) : bt (strOfNums l) (i : Int) = l[i] := by
  have hz : i < (strOfNums l).size := by rw [strOfNums_size]; exact h
  have hb := hl l[i] (List.getElem_mem h)
  unfold bt
  rw [dif_pos (by simpa using hz)]
  have e : (strOfNums l)[((i : Nat) : Int).toNat]'(by simpa using hz) = UInt8.ofNat (l[i]).toNat := by simp [strOfNums, ByteArray.getElem_eq_getElem_data]
  rw [e, UInt8.toNat_ofNat_of_lt' (by show l[i].toNat < 256; omega)]
  omega
/-- Two digits for each byte. -/
def hexs (l : List Int) : List Int := l.flatMap fun b => [hx (b / 16), hx (b % 16)]
theorem hexs_cons (b : Int) (l : List Int) : hexs (b :: l) = [hx (b / 16), hx (b % 16)] ++ hexs l := rfl
theorem hexs_app (x y : List Int) : hexs (x ++ y) = hexs x ++ hexs y := by simp [hexs]
theorem hexs_len (l : List Int) : (hexs l).length = 2 * l.length := by
  induction l with
  | nil => rfl
  | cons b l ih => rw [hexs_cons, List.length_append, ih]; simp; omega
theorem hexs_range (l : List Int) (hl : ∀ b ∈ l, 0 ≤ b ∧ b ≤ 255) : ∀ b ∈ hexs l, 0 ≤ b ∧ b ≤ 255 := by
  intro b hb
  obtain ⟨x, hx1, hx2⟩ := List.mem_flatMap.1 hb
  have hr := hl x hx1
  have r1 := hx_range (x := x / 16) (by omega) (by omega)
  have r2 := hx_range (x := x % 16) (by omega) (by omega)
  simp only [List.mem_cons, List.not_mem_nil, or_false] at hx2
  rcases hx2 with rfl | rfl <;> omega
theorem enc_loop (s : ByteArray) (sz : s.size ≤ 1048576) (u : List Int) : ∀ (k : Nat) (pre : List Int), nms s = pre ++ u → u.length < k →
    impl_hexText.l0 k s (hexs pre) (s.size : Int) (pre.length : Int) = some (strOfNums (hexs (pre ++ u))) := by
  induction u with
  | nil =>
    intro k pre e hk
    obtain ⟨k, rfl⟩ : ∃ m, k = m + 1 := ⟨k - 1, by omega⟩
    have hl := nms_len s
    rw [e] at hl
    simp only [List.length_append, List.length_nil] at hl
    simp only [impl_hexText.l0]
    rw [if_neg (by omega), List.append_nil]
  | cons b u ih =>
    intro k pre e hk
    simp only [List.length_cons] at hk
    obtain ⟨k, rfl⟩ : ∃ m, k = m + 1 := ⟨k - 1, by omega⟩
    have hl := nms_len s
    rw [e] at hl
    simp only [List.length_append, List.length_cons] at hl
    have hb : bt s (pre.length : Int) = b := by rw [bt_nms s _ (by omega), e]; simp [List.getD]
    have hr := nms_range s b (by rw [e]; simp)
    have e1 : Go.bits .and .u8 b 15 = b % 16 := u8_and15 b hr.1 (by omega)
    have hn : ((pre.length : Int) + 1) = (((pre ++ [b]).length : Nat) : Int) := by simp
    have hlen := hexs_len pre
    simp only [impl_hexText.l0]
    rw [if_pos (by omega), if_pos (by omega), if_pos (by omega), hb, e1, if_pos (by omega), if_pos (by omega), if_pos (by omega), if_pos (by omega), tab (by omega) (by omega), tab (by omega) (by omega)]
    simp only [Option.bind_some]
    rw [if_pos (by simp only [List.length_cons, List.length_nil]; omega), w64 (by omega) (by omega), hn]
    have := ih k (pre ++ [b]) (by rw [e]; simp) (by omega)
    rw [hexs_app] at this
    simpa [hexs] using this
theorem hexdig {v : Int} (h0 : 0 ≤ v) (h1 : v < 16) (j : Nat) (hj : 1 ≤ j) : impl_hexDigit.f j (hx v) = some v := by
  obtain ⟨j, rfl⟩ : ∃ m, j = m + 1 := ⟨j - 1, by omega⟩
  have hd : ∀ (b : Int) (f : Bool), impl_hexDigit.j0 (j + 1) b f = if f = true then some ((b - 48) % 256) else if b ≥ 97 then (if b ≤ 102 then some ((((b - 97) % 256) + 10) % 256) else some 16) else some 16 := by
    intro b f
    simp only [impl_hexDigit.j0]
  have hr := hx_range h0 h1
  unfold impl_hexDigit.f
  rw [if_pos (by omega), hd]
  by_cases c : v < 10
  · have e : hx v = 48 + v := by unfold hx; rw [if_pos c]
    rw [if_pos (by rw [e]; simp; omega), e]
    congr 1; omega
  · have e : hx v = 87 + v := by unfold hx; rw [if_neg c]
    rw [if_neg (by rw [e]; simp; omega), if_pos (by omega), if_pos (by omega), e]
    congr 1; omega
theorem or16 : ∀ a b : Fin 16, Go.bits .or .u8 (((a.val : Int) * 16) % 256) (b.val : Int) = 16 * (a.val : Int) + (b.val : Int) := by decide
theorem or_eq {t u : Int} (h0 : 0 ≤ t) (h1 : t ≤ 15) (h2 : 0 ≤ u) (h3 : u ≤ 15) : Go.bits .or .u8 ((t * 16) % 256) u = 16 * t + u := by
  have h := or16 ⟨t.toNat, by omega⟩ ⟨u.toNat, by omega⟩
  simp only [Int.toNat_of_nonneg h0, Int.toNat_of_nonneg h2] at h
  exact h
theorem dec_loop (l : List Int) (hl : ∀ b ∈ l, 0 ≤ b ∧ b ≤ 255) (sz : l.length ≤ 1048576) (u : List Int) : ∀ (k : Nat) (pre : List Int), l = pre ++ u → u.length + 2 < k →
    impl_readHex.l0 k (strOfNums (hexs l)) pre (2 * (pre.length : Int)) = some (strOfNums l, true) := by
  have hL := hexs_range l hl
  have hn := hexs_len l
  have hz : ((strOfNums (hexs l)).size : Int) = 2 * l.length := by rw [strOfNums_size, hn]; simp
  induction u with
  | nil =>
    intro k pre e hk
    obtain ⟨k, rfl⟩ : ∃ m, k = m + 1 := ⟨k - 1, by omega⟩
    have h2 : l.length = pre.length := by rw [e]; simp
    simp only [impl_readHex.l0]
    rw [if_neg (by omega), e, List.append_nil]
  | cons b u ih =>
    intro k pre e hk
    simp only [List.length_cons] at hk
    obtain ⟨k, rfl⟩ : ∃ m, k = m + 1 := ⟨k - 1, by omega⟩
    have h2 : l.length = pre.length + (u.length + 1) := by rw [e]; simp
    have hr := hl b (by rw [e]; simp)
    have hs : hexs l = hexs pre ++ ([hx (b / 16), hx (b % 16)] ++ hexs u) := by rw [e, hexs_app, hexs_cons]
    have hp := hexs_len pre
    have g1 : (hexs l)[2 * pre.length]'(by omega) = hx (b / 16) := by simp only [hs, List.getElem_append_right (show (hexs pre).length ≤ 2 * pre.length by omega)]; simp [hp]
    have g2 : (hexs l)[2 * pre.length + 1]'(by omega) = hx (b % 16) := by simp only [hs, List.getElem_append_right (show (hexs pre).length ≤ 2 * pre.length + 1 by omega)]; simp [hp]
    have b1 : bt (strOfNums (hexs l)) (2 * (pre.length : Int)) = hx (b / 16) := by
      rw [show 2 * (pre.length : Int) = ((2 * pre.length : Nat) : Int) by simp, bt_str _ hL _ (by omega), g1]
    have b2 : bt (strOfNums (hexs l)) (2 * (pre.length : Int) + 1) = hx (b % 16) := by
      rw [show 2 * (pre.length : Int) + 1 = ((2 * pre.length + 1 : Nat) : Int) by simp, bt_str _ hL _ (by omega), g2]
    simp only [impl_readHex.l0]
    rw [w64 (n := 2 * (pre.length : Int) + 1) (by omega) (by omega), w64 (n := 2 * (pre.length : Int) + 2) (by omega) (by omega), b1, b2, hexdig (by omega) (by omega) k (by omega), hexdig (by omega) (by omega) k (by omega)]
    simp only [Option.bind_some]
    rw [if_pos (by omega), if_pos (by omega), if_pos (by omega), if_pos (by omega), if_neg (by omega), if_neg (by omega), if_pos (by omega), or_eq (by omega) (by omega) (by omega) (by omega)]
    have := ih k (pre ++ [b]) (by rw [e]; simp) (by omega)
    rw [show 2 * (((pre ++ [b]).length : Nat) : Int) = 2 * (pre.length : Int) + 2 by simp; omega] at this
    rw [show 16 * (b / 16) + b % 16 = b by omega]
    exact this
/-- The place of a cursor lies in its bytes. -/
structure OkC (l : List Int) (i : Int) : Prop where
  lo : 0 ≤ i
  hi : i ≤ l.length
  sz : (l.length : Int) ≤ 140737488351232
theorem byte_tells {l : List Int} {i : Int} (h : Int) (ok : OkC l i) : ∃ x i' h', spec_l01Byte.f l i h = some (x, i', h') ∧ OkC l i' ∧ 0 ≤ x ∧ x ≤ 255 := by
  obtain ⟨lo, hi, sz⟩ := ok
  unfold spec_l01Byte.f
  by_cases h1 : i < (l.length : Int)
  · rw [if_pos h1, if_pos lo]
    refine ⟨_, _, _, rfl, ?_, and255 _⟩
    rw [w64 (by omega) (by omega)]
    exact ⟨by omega, by omega, sz⟩
  · rw [if_neg h1]
    exact ⟨_, _, _, rfl, ⟨lo, hi, sz⟩, and255 _⟩
theorem below_tells {l : List Int} {i : Int} (h n : Int) (ok : OkC l i) (hn : 1 ≤ n) : ∃ x i' h', spec_l01Below.f l i h n = some (x, i', h') ∧ OkC l i' ∧ 0 ≤ x ∧ x < n := by
  unfold spec_l01Below.f
  rw [if_neg (by omega)]
  by_cases h1 : n ≤ 256
  · rw [if_pos h1]
    obtain ⟨x, i1, g1, e1, ok1, x0, x1⟩ := byte_tells h ok
    rw [e1]
    simp only [Option.bind_some]
    rw [if_neg (by omega)]
    exact ⟨_, _, _, rfl, ok1, tmod_in _ _ x0 hn⟩
  · rw [if_neg h1]
    obtain ⟨x, i1, g1, e1, ok1, x0, x1⟩ := byte_tells h ok
    obtain ⟨y, i2, g2, e2, ok2, y0, y1⟩ := byte_tells g1 ok1
    obtain ⟨z, i3, g3, e3, ok3, z0, z1⟩ := byte_tells g2 ok2
    obtain ⟨v, i4, g4, e4, ok4, v0, v1⟩ := byte_tells g3 ok3
    rw [e1]; simp only [Option.bind_some]
    rw [e2]; simp only [Option.bind_some]
    rw [e3]; simp only [Option.bind_some]
    rw [e4]; simp only [Option.bind_some]
    rw [if_neg (by omega)]
    refine ⟨_, _, _, rfl, ok4, tmod_in _ _ ?_ hn⟩
    rw [w64 (n := x * 16777216) (by omega) (by omega), w64 (n := y * 65536) (by omega) (by omega), w64 (n := z * 256) (by omega) (by omega)]
    rw [w64 (n := x * 16777216 + y * 65536) (by omega) (by omega), w64 (n := x * 16777216 + y * 65536 + z * 256) (by omega) (by omega)]
    rw [w64 (by omega) (by omega)]
    omega
theorem once_tells {l : List Int} {i : Int} (h n : Int) (ok : OkC l i) (hn : 1 ≤ n) : ∃ x i' h', spec_l01Once.f l i h n = some (x, i', h') ∧ OkC l i' := by
  obtain ⟨x, i1, g1, e1, ok1, _⟩ := below_tells h n ok hn
  unfold spec_l01Once.f
  rw [e1]
  exact ⟨_, _, _, rfl, ok1⟩
theorem new_loop (l : List Int) (sz : (l.length : Int) ≤ 140737488351232) (d : Nat) : ∀ (k : Nat) (h i : Int), 0 ≤ i → i ≤ l.length → (l.length : Int) - i = d → d < k → ∃ g, spec_l01New.l0 k l h i = some (l, 0, g) := by
  induction d with
  | zero =>
    intro k h i h0 h1 hd hk
    obtain ⟨k, rfl⟩ : ∃ m, k = m + 1 := ⟨k - 1, by omega⟩
    exact ⟨h, by simp only [spec_l01New.l0]; rw [if_neg (by omega)]⟩
  | succ d ih =>
    intro k h i h0 h1 hd hk
    obtain ⟨k, rfl⟩ : ∃ m, k = m + 1 := ⟨k - 1, by omega⟩
    simp only [spec_l01New.l0]
    rw [if_pos (by omega)]
    by_cases c : i < 4000
    · rw [if_pos c, if_pos h0, w64 (n := i + 1) (by omega) (by omega)]
      exact ih k _ (i + 1) (by omega) (by omega) (by omega) (by omega)
    · rw [if_neg c]; exact ⟨h, rfl⟩
theorem new_tells (l : List Int) (sz : (l.length : Int) ≤ 140737488351232) : ∃ g, ∀ k, l.length < k → spec_l01New.f k l = some (l, 0, g) := by
  obtain ⟨g, e⟩ := new_loop l sz l.length (l.length + 1) (wrap64 (98347 + (l.length : Int))) 0 (by omega) (by omega) (by omega) (by omega)
  exact ⟨g, fun k hk => at_rounds (fun k => spec_l01New.mono l k) (by omega : l.length + 1 ≤ k) e⟩
theorem ok_start {l : List Int} (sz : (l.length : Int) ≤ 140737488351232) : OkC l 0 := ⟨by omega, by omega, sz⟩
theorem long_loop (n x1 : Int) (hn : n ≤ 30000) (d : Nat) : ∀ (k : Nat) (x5 : List Int) (i : Int), 0 ≤ i → i ≤ n → n - i = d → d < k → (x5.length : Int) = n → ∃ s, spec_l01Long.l0 k n x1 x5 i = some s ∧ (s.size : Int) = n := by
  induction d with
  | zero =>
    intro k x5 i h0 h1 hd hk hl
    obtain ⟨k, rfl⟩ : ∃ m, k = m + 1 := ⟨k - 1, by omega⟩
    simp only [spec_l01Long.l0]
    rw [if_neg (by omega)]
    exact ⟨_, rfl, by rw [strOfNums_size]; exact hl⟩
  | succ d ih =>
    intro k x5 i h0 h1 hd hk hl
    obtain ⟨k, rfl⟩ : ∃ m, k = m + 1 := ⟨k - 1, by omega⟩
    simp only [spec_l01Long.l0]
    rw [if_pos (by omega), if_pos h0, if_pos (by omega), w64 (n := i + 1) (by omega) (by omega)]
    exact ih k _ (i + 1) (by omega) (by omega) (by omega) (by omega) (by simpa using hl)
theorem long_tells (n x1 : Int) (h0 : 0 ≤ n) (hn : n ≤ 30000) : ∃ s, (∀ k : Nat, n < k → spec_l01Long.f k n x1 = some s) ∧ (s.size : Int) = n := by
  obtain ⟨s, e, hs⟩ := long_loop n x1 hn n.toNat (n.toNat + 1) (List.replicate n.toNat 0) 0 (by omega) h0 (by omega) (by omega) (by simp; omega)
  refine ⟨s, fun k hk => ?_, hs⟩
  unfold spec_l01Long.f
  rw [if_pos h0, if_pos (by omega)]
  exact at_rounds (fun k => spec_l01Long.mono_l k _ _ _ _) (by omega : n.toNat + 1 ≤ k) e
theorem text_loop (l : List Int) (n : Int) (hn : n ≤ 5000) (d : Nat) : ∀ (k : Nat) (x5 : List Int) (j i h : Int), OkC l i → 0 ≤ j → (x5.length : Int) = j → j ≤ n → n - j = d → d < k → ∃ s i' h', spec_l01Text.l0 k n x5 j l i h = some (s, i', h') ∧ (s.size : Int) = n ∧ OkC l i' := by
  induction d with
  | zero =>
    intro k x5 j i h ok h0 hl h1 hd hk
    obtain ⟨k, rfl⟩ : ∃ m, k = m + 1 := ⟨k - 1, by omega⟩
    simp only [spec_l01Text.l0]
    rw [if_neg (by omega)]
    exact ⟨_, _, _, rfl, by rw [strOfNums_size]; omega, ok⟩
  | succ d ih =>
    intro k x5 j i h ok h0 hl h1 hd hk
    obtain ⟨k, rfl⟩ : ∃ m, k = m + 1 := ⟨k - 1, by omega⟩
    simp only [spec_l01Text.l0]
    obtain ⟨x, i1, g1, e1, ok1, x0, x1⟩ := byte_tells h ok
    rw [if_pos (by omega), e1]
    simp only [Option.bind_some]
    rw [if_pos (by omega), w64 (n := j + 1) (by omega) (by omega)]
    exact ih k _ (j + 1) i1 g1 ok1 (by omega) (by simp; omega) (by omega) (by omega) (by omega)
theorem text_tells (l : List Int) (n : Int) (h0 : 0 ≤ n) (hn : n ≤ 5000) (i h : Int) (ok : OkC l i) : ∃ s i' h', (∀ k : Nat, n + 1 < k → spec_l01Text.f k l i h n = some (s, i', h')) ∧ (s.size : Int) = n ∧ OkC l i' := by
  obtain ⟨s, i', h', e, hs, ok'⟩ := text_loop l n hn n.toNat (n.toNat + 1) [] 0 i h ok (by omega) (by simp) h0 (by omega) (by omega)
  refine ⟨s, i', h', fun k hk => ?_, hs, ok'⟩
  unfold spec_l01Text.f
  rw [if_neg (by omega)]
  obtain ⟨k, rfl⟩ : ∃ m, k = m + 1 := ⟨k - 1, by omega⟩
  simp only [spec_l01Text.j0]
  exact at_rounds (fun k => (spec_l01Text.mono_l k).2 _ _ _ _ _ _) (by omega : n.toNat + 1 ≤ k) e
theorem drawHex_tells (l : List Int) (sz : (l.length : Int) ≤ 140737488351232) : ∃ s : ByteArray, (∀ k, l.length + 30000 < k → spec_DrawEncodeHex.f k l = some s) ∧ s.size ≤ 20001 := by
  obtain ⟨g, e⟩ := new_tells l sz
  obtain ⟨b, i1, g1, e1, ok1⟩ := once_tells g 60 (ok_start sz) (by omega)
  by_cases c : b = true
  · obtain ⟨x, i2, g2, e2, ok2, x0, x1⟩ := below_tells g1 2 ok1 (by omega)
    obtain ⟨s, es, hs⟩ := long_tells (20000 + x) 200 (by omega) (by omega)
    refine ⟨s, fun k hk => ?_, by omega⟩
    unfold spec_DrawEncodeHex.f
    rw [e k (by omega)]
    simp only [Option.bind_some, e1]
    rw [if_pos c]
    simp only [Option.bind_some, e2]
    rw [w64 (n := 20000 + x) (by omega) (by omega), es k (by omega)]
    rfl
  · obtain ⟨x, i2, g2, e2, ok2, x0, x1⟩ := below_tells g1 30 ok1 (by omega)
    obtain ⟨s, i3, g3, es, hs, ok3⟩ := text_tells l x x0 (by omega) i2 g2 ok2
    refine ⟨s, fun k hk => ?_, by omega⟩
    unfold spec_DrawEncodeHex.f
    rw [e k (by omega)]
    simp only [Option.bind_some, e1]
    rw [if_neg c]
    simp only [Option.bind_some, e2]
    rw [es k (by omega)]
    rfl
theorem ifmt (n : Int) (h0 : -9223372036854775808 ≤ n) (h1 : n ≤ 9223372036854775807) : impl_FormatInt.f n = some ⟨(Lib.itoa n).toArray⟩ := by
  unfold impl_FormatInt.f
  rw [if_pos ⟨h0, h1⟩]
theorem hexText_tells (s : ByteArray) (hs : s.size ≤ 20000) (k : Nat) (hk : 20000 < k) : impl_hexText.f k s = some (strOfNums (hexs (nms s))) := by
  unfold impl_hexText.f
  rw [w64 (n := 2 * (s.size : Int)) (by omega) (by omega), if_pos (by omega), if_pos (by omega)]
  have h := enc_loop s (by omega) (nms s) k [] (by simp) (by rw [nms_len]; omega)
  rw [List.nil_append] at h
  exact h
theorem readHex_tells (s : ByteArray) (hs : s.size ≤ 20000) (k : Nat) (hk : 20010 < k) : impl_readHex.f k (strOfNums (hexs (nms s))) = some (s, true) := by
  have hz : ((strOfNums (hexs (nms s))).size : Int) = 2 * s.size := by rw [strOfNums_size, hexs_len, nms_len]; simp
  unfold impl_readHex.f
  rw [hz, if_neg (by omega), w64 (by omega) (by omega), if_pos (by omega), if_pos (by omega)]
  have h := dec_loop (nms s) (nms_range s) (by rw [nms_len]; omega) (nms s) k [] (by simp) (by rw [nms_len]; omega)
  rw [nms_back] at h
  simpa using h
theorem FnHexText : laws_FnHexText.Pure := by
  intro l _ hl _
  obtain ⟨s, es, hs⟩ := drawHex_tells l (by omega)
  refine ⟨l.length + 60000, ?_⟩
  unfold laws_FnHexText.f laws_big.f
  rw [es _ (by omega)]
  simp only [Option.bind_some]
  split
  · rfl
  · unfold impl_EncodeHex.f impl_DecodeHex.f
    by_cases c : (s.size : Int) > 20000
    · rw [if_pos c]
      simp only [Option.bind_some]
      rw [if_pos c, if_neg (by simp), if_pos (by rw [ByteArray.toList_eq]), ifmt 10 (by omega) (by omega)]
      simp only [Option.bind_some]
      congr 1
      have e10 : Lib.itoa 10 = [49, 48] := by
        unfold Lib.itoa
        rw [if_neg (by omega), show (10 : Int).toNat = 10 from rfl, Lib.decDigits_two (by omega) (by omega)]
        rfl
      rw [ByteArray.toList_eq, e10]
      rfl
    · have hz : ((strOfNums (hexs (nms s))).size : Int) = 2 * s.size := by rw [strOfNums_size, hexs_len, nms_len]; simp
      rw [if_neg c, hexText_tells s (by omega) _ (by omega)]
      simp only [Option.bind_some]
      rw [if_neg c, readHex_tells s (by omega) _ (by omega)]
      simp only [Option.bind_some, if_true]
      rw [if_neg c]
      simp only [Option.bind_some, if_true]
      rw [hz, w64 (by omega) (by omega)]
      simp

end Go.Proofs.YtcpmkcidehhbiaaDoor.Pure
