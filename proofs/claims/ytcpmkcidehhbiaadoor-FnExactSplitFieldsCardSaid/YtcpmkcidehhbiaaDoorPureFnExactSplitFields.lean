/- The program's SplitFields and the reference's return the same fields for every line, in memory of their own; the row's tables of the library hold what the card ties. -/
import Derived.Test.YtcpmkcidehhbiaaDoorPFnExactSplitFieldsx2
import Derived.Laws.Concat
import Derived.Laws.Strings
import Derived.Lib.FieldsLaws
namespace Go.Proofs.YtcpmkcidehhbiaaDoor.Pure
open Go.RowKit Go.Proofs.YtcpmkcidehhbiaaDoor.PFnExactSplitFields Go.Proofs.YtcpmkcidehhbiaaDoorW.PrintWords Go.Proofs.YtcpmkcidehhbiaaDoorW.PrintLast
set_option linter.unusedVariables false
set_option linter.unusedSimpArgs false

theorem w64 {n : Int} (h1 : -9223372036854775808 ≤ n) (h2 : n ≤ 9223372036854775807) : wrap64 n = n := by unfold wrap64; omega
theorem w64_in (n : Int) : -9223372036854775808 ≤ wrap64 n ∧ wrap64 n ≤ 9223372036854775807 := by unfold wrap64; omega
theorem wf64 {n : Int} (h : (Lit.int .i64 n).wf = true) : -9223372036854775808 ≤ n ∧ n ≤ 9223372036854775807 := by
  simp only [Lit.wf, IntKind.min, IntKind.max, IntKind.signed, IntKind.bits, Bool.and_eq_true, decide_eq_true_eq, if_true] at h
  omega
theorem wfu8 {n : Int} (h : (Lit.int .u8 n).wf = true) : 0 ≤ n ∧ n ≤ 255 := by
  simp [Lit.wf, IntKind.min, IntKind.max, IntKind.signed, IntKind.bits] at h
  omega
theorem and_in (x : Int) (m : Nat) (hm : m < 9223372036854775808) : 0 ≤ Go.bits .and .i64 x (m : Int) ∧ Go.bits .and .i64 x (m : Int) ≤ m := by
  have h1 : (BitVec.ofInt 64 x &&& BitVec.ofInt 64 (m : Int)).toNat ≤ m := by
    rw [BitVec.toNat_and]
    refine Nat.le_trans Nat.and_le_right ?_
    rw [BitVec.ofInt_natCast, BitVec.toNat_ofNat]
    exact Nat.mod_le _ _
  have h2 : Go.bits .and .i64 x (m : Int) = IntKind.i64.wrap (((BitVec.ofInt 64 x &&& BitVec.ofInt 64 (m : Int)).toNat : Nat) : Int) := rfl
  rw [h2, Go.IntKind.wrap_i64]
  omega
theorem and255 (x : Int) : 0 ≤ Go.bits .and .i64 x 255 ∧ Go.bits .and .i64 x 255 ≤ 255 := and_in x 255 (by decide)
theorem tmod_in (x n : Int) (h0 : 0 ≤ x) (h : 1 ≤ n) : 0 ≤ Int.tmod x n ∧ Int.tmod x n < n := ⟨Int.tmod_nonneg _ h0, Int.tmod_lt_of_pos _ (by omega)⟩
/-- A text out of its bytes. -/
def tx (l : List UInt8) : ByteArray := ⟨l.toArray⟩
theorem tx_size (l : List UInt8) : (tx l).size = l.length := by simp [tx, ByteArray.size]
theorem tx_list (l : List UInt8) : (tx l).data.toList = l := rfl
theorem tx_app (a b : List UInt8) : tx a ++ tx b = tx (a ++ b) := by unfold tx; exact ByteArray.mk_append_mk _ _
theorem tx_back (s : ByteArray) : tx s.data.toList = s := by cases s; simp [tx]
theorem size_tl (s : ByteArray) : s.size = s.data.toList.length := (Array.length_toList).symm
theorem tl_eq (a b : ByteArray) : a.toList = b.toList ↔ a.data.toList = b.data.toList := by rw [ByteArray.toList_eq, ByteArray.toList_eq]
theorem tx_inj (a b : List UInt8) : tx a = tx b ↔ a = b := by
  constructor
  · intro h
    have := congrArg (fun s : ByteArray => s.data.toList) h
    simpa [tx] using this
  · rintro rfl; rfl
theorem bt_tx (s : ByteArray) (pre : List UInt8) (c : UInt8) (u : List UInt8) (h : s.data.toList = pre ++ c :: u) : bt s (pre.length : Int) = (c.toNat : Int) := by
  have hl : s.data.toList.length = pre.length + (u.length + 1) := by rw [h]; simp
  have hz : pre.length < s.size := by have := size_tl s; omega
  unfold bt
  rw [dif_pos (by simpa using hz)]
  have e : s[((pre.length : Nat) : Int).toNat]'(by simpa using hz) = s.data.toList[pre.length]'(by omega) := by simp [ByteArray.getElem_eq_getElem_data]
  rw [e]
  have e2 : s.data.toList[pre.length]'(by omega) = c := by simp only [h]; simp
  rw [e2]
/-- A byte that no line holds. -/
def bad (b : UInt8) : Bool := decide (b.toNat < 32 ∨ 126 < b.toNat)
theorem isSp_ok {b : UInt8} (h : bad b = false) : Lib.isSp b = decide (b.toNat = 32) := by
  have e : ∀ n : Nat, n < 256 → (b == UInt8.ofNat n) = decide (b.toNat = n) := by
    intro n hn
    by_cases c : b.toNat = n
    · have : b = UInt8.ofNat n := by apply UInt8.toNat_inj.1; rw [UInt8.toNat_ofNat_of_lt' (by exact hn)]; exact c
      rw [decide_eq_true c, this]; exact beq_self_eq_true _
    · have : b ≠ UInt8.ofNat n := by intro e2; apply c; rw [e2, UInt8.toNat_ofNat_of_lt' (by exact hn)]
      simp [c, this]
  have h' : ¬ (b.toNat < 32 ∨ 126 < b.toNat) := by simpa [bad] using h
  have e9 := e 9 (by omega); have e10 := e 10 (by omega); have e11 := e 11 (by omega); have e12 := e 12 (by omega); have e13 := e 13 (by omega); have e32 := e 32 (by omega)
  unfold Lib.isSp
  rw [show (9 : UInt8) = UInt8.ofNat 9 from rfl, show (10 : UInt8) = UInt8.ofNat 10 from rfl, show (11 : UInt8) = UInt8.ofNat 11 from rfl, show (12 : UInt8) = UInt8.ofNat 12 from rfl, show (13 : UInt8) = UInt8.ofNat 13 from rfl, show (32 : UInt8) = UInt8.ofNat 32 from rfl, e9, e10, e11, e12, e13, e32,
    decide_eq_false (show ¬ b.toNat = 9 by omega), decide_eq_false (show ¬ b.toNat = 10 by omega), decide_eq_false (show ¬ b.toNat = 11 by omega), decide_eq_false (show ¬ b.toNat = 12 by omega), decide_eq_false (show ¬ b.toNat = 13 by omega)]
  rfl
/-- The fields of a line, none where it is no line. -/
def spf (l : List UInt8) : Option (List (List UInt8)) := if 600 < l.length ∨ l.any bad = true then none else if 24 < (Lib.fields l).length then none else some (Lib.fields l)
/-- What both give. -/
def spr (l : List UInt8) : List ByteArray × Bool := match spf l with | some p => (p.map tx, true) | none => ([], false)
theorem fieldsGo_good : ∀ (l cur : List UInt8), (∀ b ∈ l, bad b = false) → (∀ b ∈ cur, bad b = false ∧ Lib.isSp b = false) → ∀ p ∈ Lib.fieldsGo cur l, p ≠ [] ∧ ∀ b ∈ p, bad b = false ∧ Lib.isSp b = false
  | [], cur, _, hc => by
    intro p hp
    cases cur with
    | nil => simp [Lib.fieldsGo] at hp
    | cons c r =>
      simp [Lib.fieldsGo] at hp
      subst hp
      exact ⟨by simp, hc⟩
  | b :: l, cur, hl, hc => by
    intro p hp
    have hb := hl b (by simp)
    have hl2 : ∀ b ∈ l, bad b = false := fun x hx => hl x (by simp [hx])
    cases hs : Lib.isSp b with
    | true =>
      cases cur with
      | nil => rw [Lib.fieldsGo_sp b l hs] at hp; exact fieldsGo_good l [] hl2 (by simp) p hp
      | cons c r =>
        rw [Lib.fieldsGo_end (c :: r) b l hs (by simp)] at hp
        rcases List.mem_cons.1 hp with e | hp
        · subst e; exact ⟨by simp, hc⟩
        · exact fieldsGo_good l [] hl2 (by simp) p hp
    | false =>
      rw [Lib.fieldsGo_more cur b l hs] at hp
      refine fieldsGo_good l (cur ++ [b]) hl2 ?_ p hp
      intro x hx
      rcases List.mem_append.1 hx with hx | hx
      · exact hc x hx
      · obtain rfl := List.mem_singleton.1 hx; exact ⟨hb, hs⟩
theorem fieldsGo_run : ∀ (p cur : List UInt8) (r : List UInt8), (∀ b ∈ p, Lib.isSp b = false) → Lib.fieldsGo cur (p ++ r) = Lib.fieldsGo (cur ++ p) r
  | [], cur, r, _ => by simp
  | b :: p, cur, r, h => by
    rw [List.cons_append, Lib.fieldsGo_more cur b _ (h b (by simp)), fieldsGo_run p (cur ++ [b]) r (fun x hx => h x (by simp [hx]))]
    simp
theorem sp32 : Lib.isSp 32 = true := by decide
theorem fields_join : ∀ (ps : List (List UInt8)), (∀ p ∈ ps, p ≠ [] ∧ ∀ b ∈ p, Lib.isSp b = false) → Lib.fields (ps.flatMap fun p => p ++ [32]) = ps
  | [], _ => by simp [Lib.fields, Lib.fieldsGo]
  | p :: ps, h => by
    have hp := h p (by simp)
    have ih := fields_join ps (fun q hq => h q (by simp [hq]))
    unfold Lib.fields at ih ⊢
    rw [List.flatMap_cons, List.append_assoc, fieldsGo_run p [] _ hp.2, List.nil_append, List.singleton_append, Lib.fieldsGo_end p 32 _ sp32 hp.1, ih]
def bad_int (n : Int) : Bool := decide (n < 32 ∨ 126 < n)
theorem bad_eq (b : UInt8) : bad b = bad_int (b.toNat : Int) := by
  unfold bad bad_int
  by_cases c : b.toNat < 32 ∨ 126 < b.toNat
  · rw [decide_eq_true c, decide_eq_true (by omega)]
  · rw [decide_eq_false c, decide_eq_false (by omega)]
theorem ext_tx (s : ByteArray) (i j : Nat) (h : j ≤ s.size) : s.extract i j = tx ((s.data.toList.drop i).take (j - i)) := by
  apply ByteArray.ext
  apply Array.toList_inj.1
  rw [ByteArray.data_extract]
  simp [tx]
theorem any_bad (l : List UInt8) : (l.map fun b => (b.toNat : Int)).any bad_int = l.any bad := by
  rw [List.any_map]
  congr 1
  funext b
  exact (bad_eq b).symm
/-- The fields so far, the field that is read. -/
def fin (l : List UInt8) (out : List (List UInt8)) (cur u : List UInt8) : Option (List ByteArray × Bool) :=
  some (if u.any bad = true then ([], false) else if 24 < (out ++ Lib.fieldsGo cur u).length then ([], false) else ((out ++ Lib.fieldsGo cur u).map tx, true))
theorem spf_loop (s : ByteArray) (hs : s.size ≤ 600) (u : List UInt8) : ∀ (k : Nat) (pre : List UInt8) (out : List (List UInt8)) (cur : List UInt8) (b : Nat),
    s.data.toList = pre ++ u → b ≤ pre.length → pre.drop b = cur → out.length ≤ pre.length → 3 * u.length + 10 ≤ k →
    spec_SplitFields.l0 k s (out.map tx) (b : Int) (pre.length : Int) = fin s.data.toList out cur u := by
  have hz := size_tl s
  induction u with
  | nil =>
    intro k pre out cur b e hb hc ho hk
    obtain ⟨k, rfl⟩ : ∃ m, k = m + 3 := ⟨k - 3, by simp at hk; omega⟩
    rw [List.append_nil] at e
    have hl : s.size = pre.length := by rw [hz, e]
    have hfin : ∀ (j : Nat) (o : List (List UInt8)) (x : Int), 1 ≤ j → spec_SplitFields.l0 j s (o.map tx) x ((pre.length : Int) + 1) = some (if 24 < o.length then ([], false) else (o.map tx, true)) := by
      intro j o x hj
      obtain ⟨j, rfl⟩ : ∃ m, j = m + 1 := ⟨j - 1, by omega⟩
      simp only [spec_SplitFields.l0]
      rw [if_neg (by omega)]
      by_cases c : 24 < o.length
      · rw [if_pos (by simp; omega), if_pos c]
      · rw [if_neg (by simp; omega), if_neg c]
    rw [show k + 3 = (k + 2) + 1 from rfl]
    simp only [spec_SplitFields.l0]
    rw [if_pos (by omega), if_neg (by omega)]
    simp only [spec_SplitFields.j1]
    try rw [if_neg Bool.false_ne_true]
    rw [if_neg (by omega)]
    simp only [spec_SplitFields.j2]
    try rw [if_neg Bool.false_ne_true]
    rw [w64 (n := (pre.length : Int) + 1) (by omega) (by omega)]
    unfold fin
    rw [List.any_nil, if_neg Bool.false_ne_true]
    by_cases c : b < pre.length
    · have hcur : cur ≠ [] := by rw [← hc]; intro z; have := congrArg List.length z; simp at this; omega
      rw [if_pos (by omega), if_pos (by omega), if_pos (by omega), if_pos (by omega), if_pos (by simp; omega)]
      have hx : s.extract ((b : Int)).toNat ((pre.length : Int)).toNat = tx cur := by
        rw [Int.toNat_natCast, Int.toNat_natCast, ext_tx s b pre.length (by omega), e, hc]
        congr 1
        rw [List.take_of_length_le]
        rw [← hc, List.length_drop]; omega
      have hm : out.map tx ++ [tx cur] = (out ++ [cur]).map tx := by simp
      rw [hx, hm, hfin _ _ _ (by simp at hk; omega)]
      have hg : Lib.fieldsGo cur [] = [cur] := by cases cur with
        | nil => exact absurd rfl hcur
        | cons x y => rfl
      rw [hg]
    · have hcur : cur = [] := by rw [← hc]; exact List.drop_eq_nil_of_le (by omega)
      rw [if_neg (by omega), hfin _ _ _ (by simp at hk; omega), hcur]
      have hg : Lib.fieldsGo [] [] = [] := rfl
      rw [hg, List.append_nil]
  | cons c u ih =>
    intro k pre out cur b e hb hc ho hk
    simp only [List.length_cons] at hk
    obtain ⟨k, rfl⟩ : ∃ m, k = m + 3 := ⟨k - 3, by omega⟩
    have hl : s.size = pre.length + (u.length + 1) := by rw [hz, e]; simp
    have hbt := bt_tx s pre c u e
    have e' : s.data.toList = (pre ++ [c]) ++ u := by rw [e]; simp
    have hlen : ((pre ++ [c]).length : Int) = (pre.length : Int) + 1 := by simp
    have hbad : ∀ (x : Bool), x = bad c → spec_SplitFields.j1 (k + 2) s (out.map tx) (b : Int) (pre.length : Int) x = fin s.data.toList out cur (c :: u) := by
      intro x hx
      subst hx
      simp only [spec_SplitFields.j1]
      cases hbc : bad c with
      | true =>
        rw [if_pos rfl]
        unfold fin
        rw [List.any_cons, hbc, Bool.true_or, if_pos rfl]
      | false =>
        have hsp := isSp_ok hbc
        rw [if_neg (by simp), if_pos (by omega), if_pos (by omega), hbt]
        simp only [spec_SplitFields.j2]
        rw [w64 (n := (pre.length : Int) + 1) (by omega) (by omega)]
        have hany : (c :: u).any bad = u.any bad := by rw [List.any_cons, hbc, Bool.false_or]
        by_cases c32 : c.toNat = 32
        · have hs1 : Lib.isSp c = true := by rw [hsp]; exact decide_eq_true c32
          rw [if_neg (by simp; omega)]
          by_cases d : b < pre.length
          · have hcur : cur ≠ [] := by rw [← hc]; intro z; have := congrArg List.length z; simp at this; omega
            rw [if_pos (by omega), if_pos (by omega), if_pos (by omega), if_pos (by omega), if_pos (by simp; omega)]
            have hx : s.extract ((b : Int)).toNat ((pre.length : Int)).toNat = tx cur := by
              rw [Int.toNat_natCast, Int.toNat_natCast, ext_tx s b pre.length (by omega), e]
              congr 1
              rw [List.drop_append_of_le_length hb, hc]
              have h3 : cur.length = pre.length - b := by rw [← hc, List.length_drop]
              rw [← h3, List.take_left']
              rfl
            have hm : out.map tx ++ [tx cur] = (out ++ [cur]).map tx := by simp
            rw [hx, hm]
            have i2 := ih k (pre ++ [c]) (out ++ [cur]) [] (pre.length + 1) e' (by simp) (by simp) (by simp; omega) (by omega)
            rw [hlen, show (((pre.length + 1 : Nat)) : Int) = (pre.length : Int) + 1 by omega] at i2
            rw [i2]
            unfold fin
            rw [hany, Lib.fieldsGo_end cur c u hs1 hcur, List.append_assoc, List.singleton_append]
          · have hcur : cur = [] := by rw [← hc]; exact List.drop_eq_nil_of_le (by omega)
            rw [if_neg (by omega)]
            have i2 := ih k (pre ++ [c]) out [] (pre.length + 1) e' (by simp) (by simp) (by simp; omega) (by omega)
            rw [hlen, show (((pre.length + 1 : Nat)) : Int) = (pre.length : Int) + 1 by omega] at i2
            rw [i2]
            unfold fin
            rw [hany, hcur, Lib.fieldsGo_sp c u hs1]
        · have hs1 : Lib.isSp c = false := by rw [hsp]; exact decide_eq_false c32
          rw [if_pos (by simp; omega)]
          have i2 := ih k (pre ++ [c]) out (cur ++ [c]) b e' (by simp; omega) (by rw [List.drop_append_of_le_length hb, hc]) (by simp; omega) (by omega)
          rw [hlen] at i2
          rw [i2]
          unfold fin
          rw [hany, Lib.fieldsGo_more cur c u hs1]
    rw [show k + 3 = (k + 2) + 1 from rfl]
    simp only [spec_SplitFields.l0]
    rw [if_pos (by omega), if_pos (by omega), if_pos (by omega), hbt]
    by_cases d : c.toNat < 32
    · rw [if_pos (by omega)]
      exact hbad true (by unfold bad; rw [decide_eq_true (Or.inl d)])
    · rw [if_neg (by omega)]
      refine hbad _ ?_
      unfold bad
      by_cases d2 : 126 < c.toNat
      · rw [decide_eq_true (show c.toNat < 32 ∨ 126 < c.toNat from Or.inr d2), decide_eq_true (show (c.toNat : Int) > 126 by omega)]
      · rw [decide_eq_false (show ¬ (c.toNat < 32 ∨ 126 < c.toNat) by omega), decide_eq_false (show ¬ ((c.toNat : Int) > 126) by omega)]
theorem sspl (s : ByteArray) (k : Nat) (hk : 2000 ≤ k) : spec_SplitFields.f k s = some (spr s.data.toList) := by
  have hz := size_tl s
  unfold spec_SplitFields.f spr spf
  simp only [Option.bind_some]
  by_cases c : (s.size : Int) > 600
  · rw [if_pos c, if_pos (Or.inl (by omega))]
  · rw [if_neg c]
    have h := spf_loop s (by omega) s.data.toList k [] [] [] 0 (by simp) (by simp) (by simp) (by simp) (by omega)
    have e : ((([] : List UInt8).length : Nat) : Int) = 0 := rfl
    have e2 : ((0 : Nat) : Int) = 0 := rfl
    have e3 : ([] : List (List UInt8)).map tx = [] := rfl
    rw [e, e2, e3] at h
    rw [h]
    unfold fin
    rw [List.nil_append]
    by_cases d : s.data.toList.any bad = true
    · rw [if_pos d, if_pos (Or.inr d)]
    · have hn : ¬ (600 < s.data.toList.length ∨ s.data.toList.any bad = true) := fun z => z.elim (fun y => by omega) d
      rw [if_neg d, if_neg hn]
      have hf : Lib.fieldsGo [] s.data.toList = Lib.fields s.data.toList := rfl
      rw [hf]
      by_cases q : 24 < (Lib.fields s.data.toList).length
      · rw [if_pos q, if_pos q]
      · rw [if_neg q, if_neg q]
theorem ibad : impl_SplitFields.bad = bad_int := rfl
theorem ispl (s : ByteArray) : impl_SplitFields.f s = some (spr s.data.toList) := by
  have hz := size_tl s
  have hb : (bytesOf s).any impl_SplitFields.bad = s.data.toList.any bad := by rw [ibad]; exact any_bad _
  unfold impl_SplitFields.f spr spf
  rw [hb]
  by_cases c : 600 < s.size
  · rw [if_pos c, if_pos (Or.inl (by omega))]
  · rw [if_neg c]
    by_cases d : s.data.toList.any bad = true
    · rw [if_pos d, if_pos (Or.inr d)]
    · have hn : ¬ (600 < s.data.toList.length ∨ s.data.toList.any bad = true) := fun z => z.elim (fun y => by omega) d
      rw [if_neg d, if_neg hn]
      by_cases q : 24 < (Lib.fields s.data.toList).length
      · rw [if_pos q, if_pos q]
      · rw [if_neg q, if_neg q]; rfl
theorem mt_loop (j : Nat) : ∀ (k : Nat) (x : Int) (s : ByteArray), 0 ≤ x → x ≤ 9223372036854775807 → x < 10 ^ j → s.size + j ≤ 1000 → j < k → ∃ t, laws_markText.l0 k x s = some t := by
  induction j with
  | zero =>
    intro k x s h0 hm h1 hs hk
    obtain ⟨k, rfl⟩ : ∃ m, k = m + 1 := ⟨k - 1, by omega⟩
    simp only [laws_markText.l0]
    rw [if_neg (by simp at h1; omega), if_pos (by omega)]
    exact ⟨_, rfl⟩
  | succ j ih =>
    intro k x s h0 hm h1 hs hk
    obtain ⟨k, rfl⟩ : ∃ m, k = m + 1 := ⟨k - 1, by omega⟩
    simp only [laws_markText.l0]
    by_cases c : x > 0
    · have hz : ∀ n : Int, (strOfNums [n]).size = 1 := fun n => by rw [strOfNums_size]; rfl
      rw [if_pos c]
      simp only [Option.bind_some]
      rw [hz, if_pos (by omega)]
      have hd : Int.tdiv x 10 = x / 10 := Int.tdiv_eq_ediv_of_nonneg h0
      have hp : (10 : Int) ^ (j + 1) = 10 ^ j * 10 := Int.pow_succ ..
      rw [hd, w64 (by omega) (by omega)]
      refine ih k (x / 10) _ (by omega) (by omega) (by omega) ?_ (by omega)
      rw [ByteArray.size_append, hz]; omega
    · rw [if_neg c, if_pos (by omega)]
      exact ⟨_, rfl⟩
/-- The text of a mark. -/
def mtx (n : Nat) : ByteArray := (laws_markText.f 30 (n : Int)).getD ByteArray.empty
theorem mt_tells (n : Nat) (h1 : n ≤ 1000000) (k : Nat) (hk : 30 ≤ k) : laws_markText.f k (n : Int) = some (mtx n) := by
  have h : ∃ t, laws_markText.f 30 (n : Int) = some t := by
    unfold laws_markText.f
    by_cases c : (n : Int) ≤ 0
    · rw [if_pos c]; exact ⟨_, rfl⟩
    · rw [if_neg c]
      have hp : (10 : Int) ^ 8 = 100000000 := by decide
      exact mt_loop 8 30 n _ (by omega) (by omega) (by rw [hp]; omega) (by show (0 : Nat) + 8 ≤ 1000; omega) (by omega)
  obtain ⟨t, e⟩ := h
  have e2 : mtx n = t := by unfold mtx; rw [e]; rfl
  rw [e2]
  exact at_rounds (fun k => laws_markText.mono _ k) hk e
theorem markS_loop (d : Nat) : ∀ (k : Nat) (x : List ByteArray) (i : Nat), i + d = x.length → x.length ≤ 1000 → d + 40 ≤ k →
    ∃ y, laws_markStringS.l0 k x ((i + 1 : Nat) : Int) (i : Int) = some (((x.length + 1 : Nat) : Int), y) ∧ y.length = x.length ∧ (∀ j, i ≤ j → j < x.length → y[j]? = some (mtx (j + 1))) ∧ ∀ j, j < i → y[j]? = x[j]? := by
  induction d with
  | zero =>
    intro k x i hd hl hk
    obtain ⟨k, rfl⟩ : ∃ m, k = m + 1 := ⟨k - 1, by omega⟩
    simp only [laws_markStringS.l0]
    rw [if_neg (by omega)]
    refine ⟨x, ?_, rfl, fun j h1 h2 => by omega, fun _ _ => rfl⟩
    rw [show i + 1 = x.length + 1 by omega]
  | succ d ih =>
    intro k x i hd hl hk
    obtain ⟨k, rfl⟩ : ∃ m, k = m + 1 := ⟨k - 1, by omega⟩
    simp only [laws_markStringS.l0]
    rw [if_pos (by omega), mt_tells (i + 1) (by omega) k (by omega)]
    simp only [Option.bind_some]
    rw [if_pos (by omega), w64 (by omega) (by omega), w64 (by omega) (by omega), Int.toNat_natCast]
    obtain ⟨y, e, hy, hm, ho⟩ := ih k (x.set i (mtx (i + 1))) (i + 1) (by rw [List.length_set]; omega) (by rw [List.length_set]; omega) (by omega)
    rw [List.length_set] at e hy hm
    refine ⟨y, ?_, hy, ?_, ?_⟩
    · rw [show ((i + 1 : Nat) : Int) + 1 = ((i + 1 + 1 : Nat) : Int) by omega, show (i : Int) + 1 = ((i + 1 : Nat) : Int) by omega]
      exact e
    · intro j h1 h2
      by_cases c : j = i
      · rw [ho j (by omega), c, List.getElem?_set_self (by omega)]
      · exact hm j (by omega) h2
    · intro j h1
      rw [ho j (by omega), List.getElem?_set_ne (by omega)]
theorem heldS_loop (y : List ByteArray) (hl : y.length ≤ 1000) (hm : ∀ j, j < y.length → y[j]? = some (mtx (j + 1))) (d : Nat) : ∀ (k i : Nat), i + d = y.length → d + 40 ≤ k →
    laws_heldStringS.l0 k y ((i + 1 : Nat) : Int) (i : Int) = some ((y.length + 1 : Nat) : Int) := by
  induction d with
  | zero =>
    intro k i hd hk
    obtain ⟨k, rfl⟩ : ∃ m, k = m + 1 := ⟨k - 1, by omega⟩
    simp only [laws_heldStringS.l0]
    rw [if_neg (by omega), show i + 1 = y.length + 1 by omega]
  | succ d ih =>
    intro k i hd hk
    obtain ⟨k, rfl⟩ : ∃ m, k = m + 1 := ⟨k - 1, by omega⟩
    have hr : rdOf ByteArray.empty y (i : Int) = mtx (i + 1) := by
      unfold Go.Proofs.YtcpmkcidehhbiaaDoorW.PrintWords.rdOf
      rw [Int.toNat_natCast, List.getD_eq_getElem?_getD, hm i (by omega)]
      rfl
    simp only [laws_heldStringS.l0]
    rw [if_pos (by omega), if_pos (by omega), mt_tells (i + 1) (by omega) k (by omega)]
    simp only [Option.bind_some]
    rw [hr, if_pos rfl, w64 (by omega) (by omega), w64 (by omega) (by omega), show ((i + 1 : Nat) : Int) + 1 = ((i + 1 + 1 : Nat) : Int) by omega, show (i : Int) + 1 = ((i + 1 : Nat) : Int) by omega]
    exact ih k (i + 1) (by omega) (by omega)
theorem eqS_loop (x : List ByteArray) (hl : x.length ≤ 1000) (d : Nat) : ∀ (k i : Nat), i + d = x.length → d < k → laws_eqStringS.l0 k x x (i : Int) = some true := by
  induction d with
  | zero =>
    intro k i hd hk
    obtain ⟨k, rfl⟩ : ∃ m, k = m + 1 := ⟨k - 1, by omega⟩
    simp only [laws_eqStringS.l0]
    rw [if_neg (by omega)]
  | succ d ih =>
    intro k i hd hk
    obtain ⟨k, rfl⟩ : ∃ m, k = m + 1 := ⟨k - 1, by omega⟩
    simp only [laws_eqStringS.l0]
    rw [if_pos (by omega), if_pos (by omega), if_pos (by omega), if_pos trivial, w64 (by omega) (by omega), show (i : Int) + 1 = ((i + 1 : Nat) : Int) by omega]
    exact ih k (i + 1) (by omega) (by omega)
theorem eqS_self (x : List ByteArray) (hl : x.length ≤ 1000) (k : Nat) (hk : x.length < k) : laws_eqStringS.f k x x = some true := by
  unfold laws_eqStringS.f
  rw [if_pos rfl]
  exact eqS_loop x hl x.length k 0 (by omega) hk
theorem markS_tells (x : List ByteArray) (hl : x.length ≤ 1000) (k : Nat) (hk : x.length + 40 ≤ k) : ∃ y, laws_markStringS.f k x 1 = some (((x.length + 1 : Nat) : Int), y) ∧ y.length = x.length ∧ ∀ j, j < y.length → y[j]? = some (mtx (j + 1)) := by
  obtain ⟨y, e, hy, hm, _⟩ := markS_loop x.length k x 0 (by omega) hl hk
  exact ⟨y, e, hy, fun j hj => hm j (by omega) (by omega)⟩
theorem heldS_tells (y : List ByteArray) (hl : y.length ≤ 1000) (hm : ∀ j, j < y.length → y[j]? = some (mtx (j + 1))) (k : Nat) (hk : y.length + 40 ≤ k) : laws_heldStringS.f k y 1 = some ((y.length + 1 : Nat) : Int) :=
  heldS_loop y hl hm y.length k 0 (by omega) hk
theorem spr_len (l : List UInt8) : (spr l).1.length ≤ 24 := by
  unfold spr spf
  by_cases c : 600 < l.length ∨ l.any bad = true
  · rw [if_pos c]; simp
  · rw [if_neg c]
    by_cases d : 24 < (Lib.fields l).length
    · rw [if_pos d]; simp
    · rw [if_neg d]; simp; omega
theorem FnExactSplitFields : laws_FnExactSplitFields.Pure := by
  intro s hs
  refine ⟨2003, ?_⟩
  unfold laws_FnExactSplitFields.f
  by_cases c : (s.size : Int) > 1048576
  · rw [if_pos c]
  · have hl := spr_len s.data.toList
    have he : ∀ k, 100 ≤ k → laws_eqStringS.f k (spr s.data.toList).1 (spr s.data.toList).1 = some true := fun k hk => eqS_self _ (by omega) k (by omega)
    rw [if_neg c, sspl s 2003 (by omega), ispl s]
    simp only [Option.bind_some]
    rw [he 2003 (by omega)]
    simp only [Option.bind_some, if_true]
    have hb : ((spr s.data.toList).2 != (spr s.data.toList).2) = false := by simp
    rw [hb]
    obtain ⟨y, ey, hy, hm⟩ := markS_tells (spr s.data.toList).1 (by omega) 2002 (by omega)
    have hh : ∀ k, 100 ≤ k → laws_heldStringS.f k y 1 = some ((y.length + 1 : Nat) : Int) := fun k hk => heldS_tells y (by omega) hm k (by omega)
    rw [show (2003 : Nat) = 2002 + 1 from rfl]
    simp only [laws_FnExactSplitFields.j0]
    try rw [if_neg Bool.false_ne_true]
    rw [ey]
    simp only [Option.bind_some]
    rw [hh 2002 (by omega)]
    simp only [Option.bind_some]
    rw [if_neg (by omega), if_pos (by rw [hy]), ispl s]
    simp only [Option.bind_some]
    rw [he 2002 (by omega)]
    simp only [Option.bind_some, if_true]
    rw [hb, show (2002 : Nat) = 2001 + 1 from rfl]
    simp only [laws_FnExactSplitFields.j1]
    try rw [if_neg Bool.false_ne_true]
    rw [hh 2001 (by omega)]
    simp only [Option.bind_some]
    rw [if_neg (by omega), if_pos (by rw [hy])]

end Go.Proofs.YtcpmkcidehhbiaaDoor.Pure
