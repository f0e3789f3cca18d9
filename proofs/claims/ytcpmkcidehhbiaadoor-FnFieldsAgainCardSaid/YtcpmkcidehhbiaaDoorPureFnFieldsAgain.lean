/- The fields of a line, joined by single spaces, have the same fields, at every draw; the row's tables of the library hold what the card ties. -/
import Derived.Test.YtcpmkcidehhbiaaDoorPFnFieldsAgainx3
import Derived.Laws.Concat
import Derived.Laws.Strings
import Derived.Lib.FieldsLaws
import Derived.Lib.ItoaMem
namespace Go.Proofs.YtcpmkcidehhbiaaDoor.Pure
open Go.RowKit Go.Proofs.YtcpmkcidehhbiaaDoor.PFnFieldsAgain Go.Proofs.YtcpmkcidehhbiaaDoorW.PrintWords Go.Proofs.YtcpmkcidehhbiaaDoorW.PrintLast
set_option linter.unusedVariables false
set_option linter.unusedSimpArgs false

theorem w64 {n : Int} (h1 : -9223372036854775808 ≤ n) (h2 : n ≤ 9223372036854775807) : wrap64 n = n := by unfold wrap64; omega
theorem w64_in (n : Int) : -9223372036854775808 ≤ wrap64 n ∧ wrap64 n ≤ 9223372036854775807 := by unfold wrap64; omega
theorem wf64 {n : Int} (h : (Lit.int .i64 n).wf = true) : -9223372036854775808 ≤ n ∧ n ≤ 9223372036854775807 := by
  simp only [Lit.wf, IntKind.min, IntKind.max, IntKind.signed, IntKind.bits, Bool.and_eq_true, decide_eq_true_eq, if_true] at h
  omega
theorem wfu8 {n : Int} (h : (Lit.int .u8 n).wf = true) : 0 ≤ n ∧ n ≤ 255 := by
  simp [Lit.wf, IntKind.min, IntKind.max, IntKind.signed, IntKind.bits] at h
  omega
theorem and_in (x : Int) (m : Nat) (hm : m < 9223372036854775808) : 0 ≤ Go.bits .and .i64 x (m : Int) ∧ Go.bits .and .i64 x (m : Int) ≤ m := by
  have h1 : (BitVec.ofInt 64 x &&& BitVec.ofInt 64 (m : Int)).toNat ≤ m := by
    rw [BitVec.toNat_and]
    refine Nat.le_trans Nat.and_le_right ?_
    rw [BitVec.ofInt_natCast, BitVec.toNat_ofNat]
    exact Nat.mod_le _ _
  have h2 : Go.bits .and .i64 x (m : Int) = IntKind.i64.wrap (((BitVec.ofInt 64 x &&& BitVec.ofInt 64 (m : Int)).toNat : Nat) : Int) := rfl
  rw [h2, Go.IntKind.wrap_i64]
  omega
theorem and255 (x : Int) : 0 ≤ Go.bits .and .i64 x 255 ∧ Go.bits .and .i64 x 255 ≤ 255 := and_in x 255 (by decide)
theorem tmod_in (x n : Int) (h0 : 0 ≤ x) (h : 1 ≤ n) : 0 ≤ Int.tmod x n ∧ Int.tmod x n < n := ⟨Int.tmod_nonneg _ h0, Int.tmod_lt_of_pos _ (by omega)⟩
/-- A text out of its bytes. -/
def tx (l : List UInt8) : ByteArray := ⟨l.toArray⟩
theorem tx_size (l : List UInt8) : (tx l).size = l.length := by simp [tx, ByteArray.size]
theorem tx_list (l : List UInt8) : (tx l).data.toList = l := rfl
theorem tx_app (a b : List UInt8) : tx a ++ tx b = tx (a ++ b) := by unfold tx; exact ByteArray.mk_append_mk _ _
theorem tx_back (s : ByteArray) : tx s.data.toList = s := by cases s; simp [tx]
theorem size_tl (s : ByteArray) : s.size = s.data.toList.length := (Array.length_toList).symm
theorem tl_eq (a b : ByteArray) : a.toList = b.toList ↔ a.data.toList = b.data.toList := by rw [ByteArray.toList_eq, ByteArray.toList_eq]
theorem tx_inj (a b : List UInt8) : tx a = tx b ↔ a = b := by
  constructor
  · intro h
    have := congrArg (fun s : ByteArray => s.data.toList) h
    simpa [tx] using this
  · rintro rfl; rfl
theorem bt_tx (s : ByteArray) (pre : List UInt8) (c : UInt8) (u : List UInt8) (h : s.data.toList = pre ++ c :: u) : bt s (pre.length : Int) = (c.toNat : Int) := by
  have hl : s.data.toList.length = pre.length + (u.length + 1) := by rw [h]; simp
  have hz : pre.length < s.size := by have := size_tl s; omega
  unfold bt
  rw [dif_pos (by simpa using hz)]
  have e : s[((pre.length : Nat) : Int).toNat]'(by simpa using hz) = s.data.toList[pre.length]'(by omega) := by simp [ByteArray.getElem_eq_getElem_data]
  rw [e]
  have e2 : s.data.toList[pre.length]'(by omega) = c := by simp only [h]; simp
  rw [e2]
/-- A byte that no line holds. -/
def bad (b : UInt8) : Bool := decide (b.toNat < 32 ∨ 126 < b.toNat)
theorem isSp_ok {b : UInt8} (h : bad b = false) : Lib.isSp b = decide (b.toNat = 32) := by
  have e : ∀ n : Nat, n < 256 → (b == UInt8.ofNat n) = decide (b.toNat = n) := by
    intro n hn
    by_cases c : b.toNat = n
    · have : b = UInt8.ofNat n := by apply UInt8.toNat_inj.1; rw [UInt8.toNat_ofNat_of_lt' (by exact hn)]; exact c
      rw [decide_eq_true c, this]; exact beq_self_eq_true _
    · have : b ≠ UInt8.ofNat n := by intro e2; apply c; rw [e2, UInt8.toNat_ofNat_of_lt' (by exact hn)]
      simp [c, this]
  have h' : ¬ (b.toNat < 32 ∨ 126 < b.toNat) := by simpa [bad] using h
  have e9 := e 9 (by omega); have e10 := e 10 (by omega); have e11 := e 11 (by omega); have e12 := e 12 (by omega); have e13 := e 13 (by omega); have e32 := e 32 (by omega)
  unfold Lib.isSp
  rw [show (9 : UInt8) = UInt8.ofNat 9 from rfl, show (10 : UInt8) = UInt8.ofNat 10 from rfl, show (11 : UInt8) = UInt8.ofNat 11 from rfl, show (12 : UInt8) = UInt8.ofNat 12 from rfl, show (13 : UInt8) = UInt8.ofNat 13 from rfl, show (32 : UInt8) = UInt8.ofNat 32 from rfl, e9, e10, e11, e12, e13, e32,
    decide_eq_false (show ¬ b.toNat = 9 by omega), decide_eq_false (show ¬ b.toNat = 10 by omega), decide_eq_false (show ¬ b.toNat = 11 by omega), decide_eq_false (show ¬ b.toNat = 12 by omega), decide_eq_false (show ¬ b.toNat = 13 by omega)]
  rfl
/-- The fields of a line, none where it is no line. -/
def spf (l : List UInt8) : Option (List (List UInt8)) := if 600 < l.length ∨ l.any bad = true then none else if 24 < (Lib.fields l).length then none else some (Lib.fields l)
/-- What both give. -/
def spr (l : List UInt8) : List ByteArray × Bool := match spf l with | some p => (p.map tx, true) | none => ([], false)
theorem fieldsGo_good : ∀ (l cur : List UInt8), (∀ b ∈ l, bad b = false) → (∀ b ∈ cur, bad b = false ∧ Lib.isSp b = false) → ∀ p ∈ Lib.fieldsGo cur l, p ≠ [] ∧ ∀ b ∈ p, bad b = false ∧ Lib.isSp b = false
  | [], cur, _, hc => by
    intro p hp
    cases cur with
    | nil => simp [Lib.fieldsGo] at hp
    | cons c r =>
      simp [Lib.fieldsGo] at hp
      subst hp
      exact ⟨by simp, hc⟩
  | b :: l, cur, hl, hc => by
    intro p hp
    have hb := hl b (by simp)
    have hl2 : ∀ b ∈ l, bad b = false := fun x hx => hl x (by simp [hx])
    cases hs : Lib.isSp b with
    | true =>
      cases cur with
      | nil => rw [Lib.fieldsGo_sp b l hs] at hp; exact fieldsGo_good l [] hl2 (by simp) p hp
      | cons c r =>
        rw [Lib.fieldsGo_end (c :: r) b l hs (by simp)] at hp
        rcases List.mem_cons.1 hp with e | hp
        · subst e; exact ⟨by simp, hc⟩
        · exact fieldsGo_good l [] hl2 (by simp) p hp
    | false =>
      rw [Lib.fieldsGo_more cur b l hs] at hp
      refine fieldsGo_good l (cur ++ [b]) hl2 ?_ p hp
      intro x hx
      rcases List.mem_append.1 hx with hx | hx
      · exact hc x hx
      · obtain rfl := List.mem_singleton.1 hx; exact ⟨hb, hs⟩
theorem fieldsGo_run : ∀ (p cur : List UInt8) (r : List UInt8), (∀ b ∈ p, Lib.isSp b = false) → Lib.fieldsGo cur (p ++ r) = Lib.fieldsGo (cur ++ p) r
  | [], cur, r, _ => by simp
  | b :: p, cur, r, h => by
    rw [List.cons_append, Lib.fieldsGo_more cur b _ (h b (by simp)), fieldsGo_run p (cur ++ [b]) r (fun x hx => h x (by simp [hx]))]
    simp
theorem sp32 : Lib.isSp 32 = true := by decide
theorem fields_join : ∀ (ps : List (List UInt8)), (∀ p ∈ ps, p ≠ [] ∧ ∀ b ∈ p, Lib.isSp b = false) → Lib.fields (ps.flatMap fun p => p ++ [32]) = ps
  | [], _ => by simp [Lib.fields, Lib.fieldsGo]
  | p :: ps, h => by
    have hp := h p (by simp)
    have ih := fields_join ps (fun q hq => h q (by simp [hq]))
    unfold Lib.fields at ih ⊢
    rw [List.flatMap_cons, List.append_assoc, fieldsGo_run p [] _ hp.2, List.nil_append, List.singleton_append, Lib.fieldsGo_end p 32 _ sp32 hp.1, ih]
def bad_int (n : Int) : Bool := decide (n < 32 ∨ 126 < n)
theorem bad_eq (b : UInt8) : bad b = bad_int (b.toNat : Int) := by
  unfold bad bad_int
  by_cases c : b.toNat < 32 ∨ 126 < b.toNat
  · rw [decide_eq_true c, decide_eq_true (by omega)]
  · rw [decide_eq_false c, decide_eq_false (by omega)]
theorem ext_tx (s : ByteArray) (i j : Nat) (h : j ≤ s.size) : s.extract i j = tx ((s.data.toList.drop i).take (j - i)) := by
  apply ByteArray.ext
  apply Array.toList_inj.1
  rw [ByteArray.data_extract]
  simp [tx]
theorem any_bad (l : List UInt8) : (l.map fun b => (b.toNat : Int)).any bad_int = l.any bad := by
  rw [List.any_map]
  congr 1
  funext b
  exact (bad_eq b).symm
/-- The fields so far, the field that is read. -/
def fin (l : List UInt8) (out : List (List UInt8)) (cur u : List UInt8) : Option (List ByteArray × Bool) :=
  some (if u.any bad = true then ([], false) else if 24 < (out ++ Lib.fieldsGo cur u).length then ([], false) else ((out ++ Lib.fieldsGo cur u).map tx, true))
theorem spf_loop (s : ByteArray) (hs : s.size ≤ 600) (u : List UInt8) : ∀ (k : Nat) (pre : List UInt8) (out : List (List UInt8)) (cur : List UInt8) (b : Nat),
    s.data.toList = pre ++ u → b ≤ pre.length → pre.drop b = cur → out.length ≤ pre.length → 3 * u.length + 10 ≤ k →
    spec_SplitFields.l0 k s (out.map tx) (b : Int) (pre.length : Int) = fin s.data.toList out cur u := by
  have hz := size_tl s
  induction u with
  | nil =>
    intro k pre out cur b e hb hc ho hk
    obtain ⟨k, rfl⟩ : ∃ m, k = m + 3 := ⟨k - 3, by simp at hk; omega⟩
    rw [List.append_nil] at e
    have hl : s.size = pre.length := by rw [hz, e]
    have hfin : ∀ (j : Nat) (o : List (List UInt8)) (x : Int), 1 ≤ j → spec_SplitFields.l0 j s (o.map tx) x ((pre.length : Int) + 1) = some (if 24 < o.length then ([], false) else (o.map tx, true)) := by
      intro j o x hj
      obtain ⟨j, rfl⟩ : ∃ m, j = m + 1 := ⟨j - 1, by omega⟩
      simp only [spec_SplitFields.l0]
      rw [if_neg (by omega)]
      by_cases c : 24 < o.length
      · rw [if_pos (by simp; omega), if_pos c]
      · rw [if_neg (by simp; omega), if_neg c]
    rw [show k + 3 = (k + 2) + 1 from rfl]
    simp only [spec_SplitFields.l0]
    rw [if_pos (by omega), if_neg (by omega)]
    simp only [spec_SplitFields.j1]
    try rw [if_neg Bool.false_ne_true]
    rw [if_neg (by omega)]
    simp only [spec_SplitFields.j2]
    try rw [if_neg Bool.false_ne_true]
    rw [w64 (n := (pre.length : Int) + 1) (by omega) (by omega)]
    unfold fin
    rw [List.any_nil, if_neg Bool.false_ne_true]
    by_cases c : b < pre.length
    · have hcur : cur ≠ [] := by rw [← hc]; intro z; have := congrArg List.length z; simp at this; omega
      rw [if_pos (by omega), if_pos (by omega), if_pos (by omega), if_pos (by omega), if_pos (by simp; omega)]
      have hx : s.extract ((b : Int)).toNat ((pre.length : Int)).toNat = tx cur := by
        rw [Int.toNat_natCast, Int.toNat_natCast, ext_tx s b pre.length (by omega), e, hc]
        congr 1
        rw [List.take_of_length_le]
        rw [← hc, List.length_drop]; omega
      have hm : out.map tx ++ [tx cur] = (out ++ [cur]).map tx := by simp
      rw [hx, hm, hfin _ _ _ (by simp at hk; omega)]
      have hg : Lib.fieldsGo cur [] = [cur] := by cases cur with
        | nil => exact absurd rfl hcur
        | cons x y => rfl
      rw [hg]
    · have hcur : cur = [] := by rw [← hc]; exact List.drop_eq_nil_of_le (by omega)
      rw [if_neg (by omega), hfin _ _ _ (by simp at hk; omega), hcur]
      have hg : Lib.fieldsGo [] [] = [] := rfl
      rw [hg, List.append_nil]
  | cons c u ih =>
    intro k pre out cur b e hb hc ho hk
    simp only [List.length_cons] at hk
    obtain ⟨k, rfl⟩ : ∃ m, k = m + 3 := ⟨k - 3, by omega⟩
    have hl : s.size = pre.length + (u.length + 1) := by rw [hz, e]; simp
    have hbt := bt_tx s pre c u e
    have e' : s.data.toList = (pre ++ [c]) ++ u := by rw [e]; simp
    have hlen : ((pre ++ [c]).length : Int) = (pre.length : Int) + 1 := by simp
    have hbad : ∀ (x : Bool), x = bad c → spec_SplitFields.j1 (k + 2) s (out.map tx) (b : Int) (pre.length : Int) x = fin s.data.toList out cur (c :: u) := by
      intro x hx
      subst hx
      simp only [spec_SplitFields.j1]
      cases hbc : bad c with
      | true =>
        rw [if_pos rfl]
        unfold fin
        rw [List.any_cons, hbc, Bool.true_or, if_pos rfl]
      | false =>
        have hsp := isSp_ok hbc
        rw [if_neg (by simp), if_pos (by omega), if_pos (by omega), hbt]
        simp only [spec_SplitFields.j2]
        rw [w64 (n := (pre.length : Int) + 1) (by omega) (by omega)]
        have hany : (c :: u).any bad = u.any bad := by rw [List.any_cons, hbc, Bool.false_or]
        by_cases c32 : c.toNat = 32
        · have hs1 : Lib.isSp c = true := by rw [hsp]; exact decide_eq_true c32
          rw [if_neg (by simp; omega)]
          by_cases d : b < pre.length
          · have hcur : cur ≠ [] := by rw [← hc]; intro z; have := congrArg List.length z; simp at this; omega
            rw [if_pos (by omega), if_pos (by omega), if_pos (by omega), if_pos (by omega), if_pos (by simp; omega)]
            have hx : s.extract ((b : Int)).toNat ((pre.length : Int)).toNat = tx cur := by
              rw [Int.toNat_natCast, Int.toNat_natCast, ext_tx s b pre.length (by omega), e]
              congr 1
              rw [List.drop_append_of_le_length hb, hc]
              have h3 : cur.length = pre.length - b := by rw [← hc, List.length_drop]
              rw [← h3, List.take_left']
              rfl
            have hm : out.map tx ++ [tx cur] = (out ++ [cur]).map tx := by simp
            rw [hx, hm]
            have i2 := ih k (pre ++ [c]) (out ++ [cur]) [] (pre.length + 1) e' (by simp) (by simp) (by simp; omega) (by omega)
            rw [hlen, show (((pre.length + 1 : Nat)) : Int) = (pre.length : Int) + 1 by omega] at i2
            rw [i2]
            unfold fin
            rw [hany, Lib.fieldsGo_end cur c u hs1 hcur, List.append_assoc, List.singleton_append]
          · have hcur : cur = [] := by rw [← hc]; exact List.drop_eq_nil_of_le (by omega)
            rw [if_neg (by omega)]
            have i2 := ih k (pre ++ [c]) out [] (pre.length + 1) e' (by simp) (by simp) (by simp; omega) (by omega)
            rw [hlen, show (((pre.length + 1 : Nat)) : Int) = (pre.length : Int) + 1 by omega] at i2
            rw [i2]
            unfold fin
            rw [hany, hcur, Lib.fieldsGo_sp c u hs1]
        · have hs1 : Lib.isSp c = false := by rw [hsp]; exact decide_eq_false c32
          rw [if_pos (by simp; omega)]
          have i2 := ih k (pre ++ [c]) out (cur ++ [c]) b e' (by simp; omega) (by rw [List.drop_append_of_le_length hb, hc]) (by simp; omega) (by omega)
          rw [hlen] at i2
          rw [i2]
          unfold fin
          rw [hany, Lib.fieldsGo_more cur c u hs1]
    rw [show k + 3 = (k + 2) + 1 from rfl]
    simp only [spec_SplitFields.l0]
    rw [if_pos (by omega), if_pos (by omega), if_pos (by omega), hbt]
    by_cases d : c.toNat < 32
    · rw [if_pos (by omega)]
      exact hbad true (by unfold bad; rw [decide_eq_true (Or.inl d)])
    · rw [if_neg (by omega)]
      refine hbad _ ?_
      unfold bad
      by_cases d2 : 126 < c.toNat
      · rw [decide_eq_true (show c.toNat < 32 ∨ 126 < c.toNat from Or.inr d2), decide_eq_true (show (c.toNat : Int) > 126 by omega)]
      · rw [decide_eq_false (show ¬ (c.toNat < 32 ∨ 126 < c.toNat) by omega), decide_eq_false (show ¬ ((c.toNat : Int) > 126) by omega)]
theorem sspl (s : ByteArray) (k : Nat) (hk : 2000 ≤ k) : spec_SplitFields.f k s = some (spr s.data.toList) := by
  have hz := size_tl s
  unfold spec_SplitFields.f spr spf
  simp only [Option.bind_some]
  by_cases c : (s.size : Int) > 600
  · rw [if_pos c, if_pos (Or.inl (by omega))]
  · rw [if_neg c]
    have h := spf_loop s (by omega) s.data.toList k [] [] [] 0 (by simp) (by simp) (by simp) (by simp) (by omega)
    have e : ((([] : List UInt8).length : Nat) : Int) = 0 := rfl
    have e2 : ((0 : Nat) : Int) = 0 := rfl
    have e3 : ([] : List (List UInt8)).map tx = [] := rfl
    rw [e, e2, e3] at h
    rw [h]
    unfold fin
    rw [List.nil_append]
    by_cases d : s.data.toList.any bad = true
    · rw [if_pos d, if_pos (Or.inr d)]
    · have hn : ¬ (600 < s.data.toList.length ∨ s.data.toList.any bad = true) := fun z => z.elim (fun y => by omega) d
      rw [if_neg d, if_neg hn]
      have hf : Lib.fieldsGo [] s.data.toList = Lib.fields s.data.toList := rfl
      rw [hf]
      by_cases q : 24 < (Lib.fields s.data.toList).length
      · rw [if_pos q, if_pos q]
      · rw [if_neg q, if_neg q]
theorem ibad : impl_SplitFields.bad = bad_int := rfl
theorem ispl (s : ByteArray) : impl_SplitFields.f s = some (spr s.data.toList) := by
  have hz := size_tl s
  have hb : (bytesOf s).any impl_SplitFields.bad = s.data.toList.any bad := by rw [ibad]; exact any_bad _
  unfold impl_SplitFields.f spr spf
  rw [hb]
  by_cases c : 600 < s.size
  · rw [if_pos c, if_pos (Or.inl (by omega))]
  · rw [if_neg c]
    by_cases d : s.data.toList.any bad = true
    · rw [if_pos d, if_pos (Or.inr d)]
    · have hn : ¬ (600 < s.data.toList.length ∨ s.data.toList.any bad = true) := fun z => z.elim (fun y => by omega) d
      rw [if_neg d, if_neg hn]
      by_cases q : 24 < (Lib.fields s.data.toList).length
      · rw [if_pos q, if_pos q]
      · rw [if_neg q, if_neg q]; rfl
/-- The place of a cursor lies in its bytes. -/
structure OkC (l : List Int) (i : Int) : Prop where
  lo : 0 ≤ i
  hi : i ≤ l.length
  sz : (l.length : Int) ≤ 140737488351232
theorem byte_tells {l : List Int} {i : Int} (h : Int) (ok : OkC l i) : ∃ x i' h', spec_l01Byte.f l i h = some (x, i', h') ∧ OkC l i' ∧ 0 ≤ x ∧ x ≤ 255 := by
  obtain ⟨lo, hi, sz⟩ := ok
  unfold spec_l01Byte.f
  by_cases h1 : i < (l.length : Int)
  · rw [if_pos h1, if_pos lo]
    refine ⟨_, _, _, rfl, ?_, and255 _⟩
    rw [w64 (by omega) (by omega)]
    exact ⟨by omega, by omega, sz⟩
  · rw [if_neg h1]
    exact ⟨_, _, _, rfl, ⟨lo, hi, sz⟩, and255 _⟩
theorem below_tells {l : List Int} {i : Int} (h n : Int) (ok : OkC l i) (hn : 1 ≤ n) : ∃ x i' h', spec_l01Below.f l i h n = some (x, i', h') ∧ OkC l i' ∧ 0 ≤ x ∧ x < n := by
  unfold spec_l01Below.f
  rw [if_neg (by omega)]
  by_cases h1 : n ≤ 256
  · rw [if_pos h1]
    obtain ⟨x, i1, g1, e1, ok1, x0, x1⟩ := byte_tells h ok
    rw [e1]
    simp only [Option.bind_some]
    rw [if_neg (by omega)]
    exact ⟨_, _, _, rfl, ok1, tmod_in _ _ x0 hn⟩
  · rw [if_neg h1]
    obtain ⟨x, i1, g1, e1, ok1, x0, x1⟩ := byte_tells h ok
    obtain ⟨y, i2, g2, e2, ok2, y0, y1⟩ := byte_tells g1 ok1
    obtain ⟨z, i3, g3, e3, ok3, z0, z1⟩ := byte_tells g2 ok2
    obtain ⟨v, i4, g4, e4, ok4, v0, v1⟩ := byte_tells g3 ok3
    rw [e1]; simp only [Option.bind_some]
    rw [e2]; simp only [Option.bind_some]
    rw [e3]; simp only [Option.bind_some]
    rw [e4]; simp only [Option.bind_some]
    rw [if_neg (by omega)]
    refine ⟨_, _, _, rfl, ok4, tmod_in _ _ ?_ hn⟩
    rw [w64 (n := x * 16777216) (by omega) (by omega), w64 (n := y * 65536) (by omega) (by omega), w64 (n := z * 256) (by omega) (by omega)]
    rw [w64 (n := x * 16777216 + y * 65536) (by omega) (by omega), w64 (n := x * 16777216 + y * 65536 + z * 256) (by omega) (by omega)]
    rw [w64 (by omega) (by omega)]
    omega
theorem once_tells {l : List Int} {i : Int} (h n : Int) (ok : OkC l i) (hn : 1 ≤ n) : ∃ x i' h', spec_l01Once.f l i h n = some (x, i', h') ∧ OkC l i' := by
  obtain ⟨x, i1, g1, e1, ok1, _⟩ := below_tells h n ok hn
  unfold spec_l01Once.f
  rw [e1]
  exact ⟨_, _, _, rfl, ok1⟩
theorem new_loop (l : List Int) (sz : (l.length : Int) ≤ 140737488351232) (d : Nat) : ∀ (k : Nat) (h i : Int), 0 ≤ i → i ≤ l.length → (l.length : Int) - i = d → d < k → ∃ g, spec_l01New.l0 k l h i = some (l, 0, g) := by
  induction d with
  | zero =>
    intro k h i h0 h1 hd hk
    obtain ⟨k, rfl⟩ : ∃ m, k = m + 1 := ⟨k - 1, by omega⟩
    exact ⟨h, by simp only [spec_l01New.l0]; rw [if_neg (by omega)]⟩
  | succ d ih =>
    intro k h i h0 h1 hd hk
    obtain ⟨k, rfl⟩ : ∃ m, k = m + 1 := ⟨k - 1, by omega⟩
    simp only [spec_l01New.l0]
    rw [if_pos (by omega)]
    by_cases c : i < 4000
    · rw [if_pos c, if_pos h0, w64 (n := i + 1) (by omega) (by omega)]
      exact ih k _ (i + 1) (by omega) (by omega) (by omega) (by omega)
    · rw [if_neg c]; exact ⟨h, rfl⟩
theorem new_tells (l : List Int) (sz : (l.length : Int) ≤ 140737488351232) : ∃ g, ∀ k, l.length < k → spec_l01New.f k l = some (l, 0, g) := by
  obtain ⟨g, e⟩ := new_loop l sz l.length (l.length + 1) (wrap64 (98347 + (l.length : Int))) 0 (by omega) (by omega) (by omega) (by omega)
  exact ⟨g, fun k hk => at_rounds (fun k => spec_l01New.mono l k) (by omega : l.length + 1 ≤ k) e⟩
theorem ok_start {l : List Int} (sz : (l.length : Int) ≤ 140737488351232) : OkC l 0 := ⟨by omega, by omega, sz⟩
theorem long_loop (n x1 : Int) (hn : n ≤ 30000) (d : Nat) : ∀ (k : Nat) (x5 : List Int) (i : Int), 0 ≤ i → i ≤ n → n - i = d → d < k → (x5.length : Int) = n → ∃ s, spec_l01Long.l0 k n x1 x5 i = some s ∧ (s.size : Int) = n := by
  induction d with
  | zero =>
    intro k x5 i h0 h1 hd hk hl
    obtain ⟨k, rfl⟩ : ∃ m, k = m + 1 := ⟨k - 1, by omega⟩
    simp only [spec_l01Long.l0]
    rw [if_neg (by omega)]
    exact ⟨_, rfl, by rw [strOfNums_size]; exact hl⟩
  | succ d ih =>
    intro k x5 i h0 h1 hd hk hl
    obtain ⟨k, rfl⟩ : ∃ m, k = m + 1 := ⟨k - 1, by omega⟩
    simp only [spec_l01Long.l0]
    rw [if_pos (by omega), if_pos h0, if_pos (by omega), w64 (n := i + 1) (by omega) (by omega)]
    exact ih k _ (i + 1) (by omega) (by omega) (by omega) (by omega) (by simpa using hl)
theorem long_tells (n x1 : Int) (h0 : 0 ≤ n) (hn : n ≤ 30000) : ∃ s, (∀ k : Nat, n < k → spec_l01Long.f k n x1 = some s) ∧ (s.size : Int) = n := by
  obtain ⟨s, e, hs⟩ := long_loop n x1 hn n.toNat (n.toNat + 1) (List.replicate n.toNat 0) 0 (by omega) h0 (by omega) (by omega) (by simp; omega)
  refine ⟨s, fun k hk => ?_, hs⟩
  unfold spec_l01Long.f
  rw [if_pos h0, if_pos (by omega)]
  exact at_rounds (fun k => spec_l01Long.mono_l k _ _ _ _) (by omega : n.toNat + 1 ≤ k) e
theorem ifmt (n : Int) (h0 : -9223372036854775808 ≤ n) (h1 : n ≤ 9223372036854775807) : impl_FormatInt.f n = some ⟨(Lib.itoa n).toArray⟩ := by
  unfold impl_FormatInt.f
  rw [if_pos ⟨h0, h1⟩]
theorem pickS_tells {l : List Int} {i : Int} (h : Int) (xs : List ByteArray) (ok : OkC l i) (hn : 1 ≤ xs.length) (hs : ∀ x ∈ xs, x.size ≤ 10) : ∃ x i' h', spec_l01Pick.f l i h xs = some (x, i', h') ∧ OkC l i' ∧ x.size ≤ 10 := by
  obtain ⟨x, i1, g1, e1, ok1, x0, x1⟩ := below_tells h (xs.length : Int) ok (by omega)
  unfold spec_l01Pick.f
  rw [e1]
  simp only [Option.bind_some]
  rw [if_pos x0, if_pos x1]
  refine ⟨_, _, _, rfl, ok1, ?_⟩
  have hlt : x.toNat < xs.length := by omega
  unfold Go.Proofs.YtcpmkcidehhbiaaDoorW.PrintWords.rdOf
  rw [List.getD_eq_getElem?_getD, List.getElem?_eq_getElem hlt]
  exact hs _ (List.getElem_mem hlt)
theorem dsf_l1 (l : List Int) (x4 x6 : Int) (K B : Nat) (h6 : 0 ≤ x6 ∧ x6 ≤ 100) (hB : B ≤ 1000000)
    (H : ∀ (k : Nat) (x5 : ByteArray) (i h : Int), K ≤ k → x5.size ≤ B → OkC l i → ∃ s, spec_DrawSplitFields.l0 k x4 x5 (x6 + 1) l i h = some s)
    (e : Nat) : ∀ (k : Nat) (x5 : ByteArray) (x7 i h : Int), 0 ≤ x7 → 5 - x7 = e → x5.size + e ≤ B → K + e + 1 ≤ k → OkC l i → ∃ s, spec_DrawSplitFields.l1 k x4 x5 x6 x7 l i h = some s := by
  induction e with
  | zero =>
    intro k x5 x7 i h h7 he hb hk ok
    obtain ⟨k, rfl⟩ : ∃ m, k = m + 1 := ⟨k - 1, by omega⟩
    obtain ⟨x, i1, g1, e1, ok1, x0, x1⟩ := below_tells h 5 ok (by omega)
    simp only [spec_DrawSplitFields.l1]
    rw [e1]
    simp only [Option.bind_some]
    rw [if_neg (by omega), w64 (by omega) (by omega)]
    exact H k x5 i1 g1 (by omega) (by omega) ok1
  | succ e ih =>
    intro k x5 x7 i h h7 he hb hk ok
    obtain ⟨k, rfl⟩ : ∃ m, k = m + 1 := ⟨k - 1, by omega⟩
    obtain ⟨x, i1, g1, e1, ok1, x0, x1⟩ := below_tells h 5 ok (by omega)
    simp only [spec_DrawSplitFields.l1]
    rw [e1]
    simp only [Option.bind_some]
    by_cases c : x7 ≤ x
    · obtain ⟨y, i2, g2, e2, ok2, y0, y1⟩ := below_tells g1 94 ok1 (by omega)
      have hz : ∀ n : Int, (strOfNums [n]).size = 1 := fun n => by rw [strOfNums_size]; rfl
      rw [if_pos c, e2]
      simp only [Option.bind_some]
      rw [hz, if_pos (by omega), w64 (n := x7 + 1) (by omega) (by omega)]
      exact ih k _ (x7 + 1) i2 g2 (by omega) (by omega) (by rw [ByteArray.size_append, hz]; omega) (by omega) ok2
    · rw [if_neg c, w64 (by omega) (by omega)]
      exact H k x5 i1 g1 (by omega) (by omega) ok1
theorem dsf_l0 (l : List Int) (x4 : Int) (h4 : x4 ≤ 25) (d : Nat) : ∀ (k : Nat) (x5 : ByteArray) (x6 i h : Int), 0 ≤ x6 → x6 ≤ x4 → x4 - x6 = d → (x5.size : Int) ≤ 100 * x6 → 12 * d + 1000 ≤ k → OkC l i →
    ∃ s, spec_DrawSplitFields.l0 k x4 x5 x6 l i h = some s := by
  induction d with
  | zero =>
    intro k x5 x6 i h h6 h64 hd hs hk ok
    obtain ⟨k, rfl⟩ : ∃ m, k = m + 1 := ⟨k - 1, by omega⟩
    obtain ⟨x, i1, g1, e1, ok1, x0, x1⟩ := below_tells h 12 ok (by omega)
    simp only [spec_DrawSplitFields.l0]
    rw [if_neg (by omega), e1]
    simp only [Option.bind_some]
    by_cases c : x = 0
    · obtain ⟨y, i2, g2, e2, ok2, hy⟩ := pickS_tells g1 [(⟨#[32]⟩ : ByteArray), (⟨#[32, 32]⟩ : ByteArray), (⟨#[9]⟩ : ByteArray), (⟨#[10]⟩ : ByteArray), (⟨#[127]⟩ : ByteArray), (⟨#[233]⟩ : ByteArray)] ok1 (by simp) (by decide)
      rw [if_pos c, e2]
      simp only [Option.bind_some]
      rw [if_pos (by omega)]
      exact ⟨_, rfl⟩
    · rw [if_neg c]
      by_cases c2 : x = 1
      · rw [if_pos c2]
        by_cases c3 : (x5.size : Int) < 600
        · obtain ⟨y, i2, g2, e2, ok2, y0, y1⟩ := below_tells g1 2 ok1 (by omega)
          rw [if_pos c3, e2]
          simp only [Option.bind_some]
          rw [w64 (by omega) (by omega)]
          obtain ⟨z, ez, hz⟩ := long_tells (600 - (x5.size : Int) + y) 32 (by omega) (by omega)
          rw [ez k (by omega)]
          simp only [Option.bind_some]
          rw [if_pos (by omega)]
          exact ⟨_, rfl⟩
        · rw [if_neg c3]; exact ⟨_, rfl⟩
      · rw [if_neg c2]; exact ⟨_, rfl⟩
  | succ d ih =>
    intro k x5 x6 i h h6 h64 hd hs hk ok
    have H : ∀ (k : Nat) (x5 : ByteArray) (i h : Int), 12 * d + 1000 ≤ k → x5.size ≤ 100 * (x6.toNat + 1) → OkC l i → ∃ s, spec_DrawSplitFields.l0 k x4 x5 (x6 + 1) l i h = some s :=
      fun k x5 i h hk hb ok => ih k x5 (x6 + 1) i h (by omega) (by omega) (by omega) (by omega) hk ok
    obtain ⟨k, rfl⟩ : ∃ m, k = m + 3 := ⟨k - 3, by omega⟩
    have hj3 : ∀ (x5 : ByteArray) (i h : Int), (x5.size : Int) ≤ 100 * x6 + 50 → OkC l i → ∃ s, spec_DrawSplitFields.j3 (k + 1) x4 x5 x6 l i h = some s := by
      intro x5 i h hb ok
      simp only [spec_DrawSplitFields.j3]
      exact dsf_l1 l x4 x6 (12 * d + 1000) (100 * (x6.toNat + 1)) (by omega) (by omega) H 5 k x5 0 i h (by omega) (by omega) (by omega) (by omega) ok
    have hj2 : ∀ (b : Bool) (i h : Int), OkC l i → ∃ s, spec_DrawSplitFields.j2 (k + 2) x4 x5 x6 b l i h = some s := by
      intro b i h ok
      rw [show k + 2 = (k + 1) + 1 from rfl]
      simp only [spec_DrawSplitFields.j2]
      cases b with
      | false =>
        try rw [if_neg Bool.false_ne_true]
        exact hj3 x5 i h (by omega) ok
      | true =>
        try rw [if_pos rfl]
        obtain ⟨x, i1, g1, e1, ok1, x0, x1⟩ := below_tells h 2 ok (by omega)
        obtain ⟨y, i2, g2, e2, ok2, y0, y1⟩ := below_tells g1 3 ok1 (by omega)
        have hxy : 0 ≤ x * y ∧ x * y ≤ 2 := by
          have hx : x = 0 ∨ x = 1 := by omega
          rcases hx with rfl | rfl <;> omega
        rw [e1]
        simp only [Option.bind_some]
        rw [e2]
        simp only [Option.bind_some]
        rw [w64 (n := x * y) (by omega) (by omega), w64 (by omega) (by omega)]
        obtain ⟨z, ez, hz⟩ := long_tells (1 + x * y) 32 (by omega) (by omega)
        rw [ez (k + 1) (by omega)]
        simp only [Option.bind_some]
        rw [if_pos (by omega)]
        exact hj3 _ i2 g2 (by rw [ByteArray.size_append]; omega) ok2
    rw [show k + 3 = (k + 2) + 1 from rfl]
    simp only [spec_DrawSplitFields.l0]
    rw [if_pos (by omega)]
    by_cases c : x6 > 0
    · rw [if_pos c]; exact hj2 true i h ok
    · obtain ⟨b, i1, g1, e1, ok1⟩ := once_tells h 5 ok (by omega)
      rw [if_neg c, e1]
      exact hj2 b i1 g1 ok1
theorem dsf_tells (l : List Int) (sz : (l.length : Int) ≤ 140737488351232) : ∃ s, ∀ k, l.length + 2000 < k → spec_DrawSplitFields.f k l = some s := by
  obtain ⟨g, e⟩ := new_tells l sz
  have hj : ∀ (n i h : Int), 0 ≤ n → n ≤ 25 → OkC l i → ∃ s, ∀ k, 1900 < k → spec_DrawSplitFields.j0 k n l i h = some s := by
    intro n i h h0 hn ok
    obtain ⟨s, es⟩ := dsf_l0 l n hn n.toNat 1400 ⟨#[]⟩ 0 i h (by omega) h0 (by omega) (by show ((0 : Nat) : Int) ≤ 100 * 0; omega) (by omega) ok
    refine ⟨s, fun k hk => ?_⟩
    obtain ⟨k, rfl⟩ : ∃ m, k = m + 1 := ⟨k - 1, by omega⟩
    simp only [spec_DrawSplitFields.j0]
    exact at_rounds (fun k => (spec_DrawSplitFields.mono_l k).2.1 _ _ _ _ _ _) (by omega : 1400 ≤ k) es
  obtain ⟨n, i1, g1, e1, ok1, n0, n1⟩ := below_tells g 9 (ok_start sz) (by omega)
  obtain ⟨b, i2, g2, e2, ok2⟩ := once_tells g1 15 ok1 (by omega)
  by_cases c : b = true
  · obtain ⟨x, i3, g3, e3, ok3, x0, x1⟩ := below_tells g2 2 ok2 (by omega)
    obtain ⟨s, es⟩ := hj (24 + x) i3 g3 (by omega) (by omega) ok3
    refine ⟨s, fun k hk => ?_⟩
    unfold spec_DrawSplitFields.f
    rw [e k (by omega)]
    simp only [Option.bind_some]
    rw [e1]
    simp only [Option.bind_some]
    rw [e2]
    simp only [Option.bind_some]
    rw [if_pos c, e3]
    simp only [Option.bind_some]
    rw [w64 (by omega) (by omega)]
    exact es k (by omega)
  · obtain ⟨s, es⟩ := hj n i2 g2 (by omega) (by omega) ok2
    refine ⟨s, fun k hk => ?_⟩
    unfold spec_DrawSplitFields.f
    rw [e k (by omega)]
    simp only [Option.bind_some]
    rw [e1]
    simp only [Option.bind_some]
    rw [e2]
    simp only [Option.bind_some]
    rw [if_neg c]
    exact es k (by omega)
theorem same_loop (x : List ByteArray) (hl : x.length ≤ 1000) (d : Nat) : ∀ (k i : Nat), i + d = x.length → d < k → laws_sameTexts.l0 k x x (i : Int) = some true := by
  induction d with
  | zero =>
    intro k i hd hk
    obtain ⟨k, rfl⟩ : ∃ m, k = m + 1 := ⟨k - 1, by omega⟩
    simp only [laws_sameTexts.l0]
    rw [if_neg (by omega)]
  | succ d ih =>
    intro k i hd hk
    obtain ⟨k, rfl⟩ : ∃ m, k = m + 1 := ⟨k - 1, by omega⟩
    simp only [laws_sameTexts.l0]
    rw [if_pos (by omega), if_pos (by omega), if_pos (by omega), if_pos trivial, w64 (by omega) (by omega), show (i : Int) + 1 = ((i + 1 : Nat) : Int) by omega]
    exact ih k (i + 1) (by omega) (by omega)
theorem same_self (x : List ByteArray) (hl : x.length ≤ 1000) (k : Nat) (hk : x.length < k) : laws_sameTexts.f k x x = some true := by
  unfold laws_sameTexts.f
  rw [if_pos rfl]
  exact same_loop x hl x.length k 0 (by omega) hk
theorem fieldsGo_len : ∀ (l cur : List UInt8), ∀ p ∈ Lib.fieldsGo cur l, p.length ≤ cur.length + l.length
  | [], cur => by
    intro p hp
    cases cur with
    | nil => simp [Lib.fieldsGo] at hp
    | cons c r => simp [Lib.fieldsGo] at hp; subst hp; simp
  | b :: l, cur => by
    intro p hp
    have i1 := fieldsGo_len l []
    have i2 := fieldsGo_len l (cur ++ [b])
    simp only [List.length_append, List.length_cons, List.length_nil] at i1 i2 ⊢
    cases hs : Lib.isSp b with
    | true =>
      cases cur with
      | nil =>
        rw [Lib.fieldsGo_sp b l hs] at hp
        have := i1 p hp
        simp; omega
      | cons c r =>
        rw [Lib.fieldsGo_end (c :: r) b l hs (by simp)] at hp
        rcases List.mem_cons.1 hp with e | hp
        · subst e; omega
        · have := i1 p hp; omega
    | false =>
      rw [Lib.fieldsGo_more cur b l hs] at hp
      have := i2 p hp
      omega
theorem fa_loop (ps : List (List UInt8)) (q : Bool) (hp : ∀ p ∈ ps, p.length ≤ 600) (hl : ps.length ≤ 24) (r : List (List UInt8)) : ∀ (k : Nat) (pre : List (List UInt8)) (x : List UInt8), ps = pre ++ r → x.length + 700 * r.length ≤ 100000 → r.length + 1 < k →
    ∃ j, 1 ≤ j ∧ laws_FnFieldsAgain.l0 k (ps.map tx) q (tx x) (pre.length : Int) = laws_FnFieldsAgain.l0 (j + 1) (ps.map tx) q (tx (x ++ r.flatMap fun p => p ++ [32])) (ps.length : Int) ∧ k = j + 1 + r.length := by
  induction r with
  | nil =>
    intro k pre x e hx hk
    refine ⟨k - 1, by simp at hk; omega, ?_, by simp; simp at hk; omega⟩
    rw [show k - 1 + 1 = k by simp at hk; omega]
    rw [List.append_nil] at e
    rw [e]; simp
  | cons p r ih =>
    intro k pre x e hx hk
    simp only [List.length_cons] at hk hx ⊢
    obtain ⟨k, rfl⟩ : ∃ m, k = m + 1 := ⟨k - 1, by omega⟩
    have hlen : ps.length = pre.length + (r.length + 1) := by rw [e]; simp
    have hpl := hp p (by rw [e]; simp)
    have hr : rdOf ByteArray.empty (ps.map tx) (pre.length : Int) = tx p := by
      unfold Go.Proofs.YtcpmkcidehhbiaaDoorW.PrintWords.rdOf
      rw [Int.toNat_natCast, e]
      simp [List.getD]
    obtain ⟨j, hj, ej, kj⟩ := ih k (pre ++ [p]) (x ++ (p ++ [32])) (by rw [e]; simp) (by simp; omega) (by omega)
    refine ⟨j, hj, ?_, by omega⟩
    have e32 : (⟨#[32]⟩ : ByteArray) = tx [32] := rfl
    conv => lhs; simp only [laws_FnFieldsAgain.l0]
    rw [if_pos (by simp; omega), if_pos (by omega), hr, tx_size, tx_size, if_pos (by omega), tx_app, tx_size, if_pos (by simp; omega), e32, tx_app, w64 (by omega) (by omega)]
    rw [List.length_append, List.length_singleton, show ((pre.length + 1 : Nat) : Int) = (pre.length : Int) + 1 by omega] at ej
    rw [List.append_assoc, ej]
    simp
theorem FnFieldsAgain : laws_FnFieldsAgain.Pure := by
  intro l _ hl _
  obtain ⟨s, es⟩ := dsf_tells l (by omega)
  refine ⟨l.length + 5000, ?_⟩
  unfold laws_FnFieldsAgain.f laws_big.f
  rw [es _ (by omega)]
  simp only [Option.bind_some]
  split
  · rfl
  · rw [ispl s, sspl s _ (by omega)]
    simp only [Option.bind_some]
    obtain ⟨L, hL⟩ : ∃ L, s.data.toList = L := ⟨_, rfl⟩
    rw [hL]
    by_cases c : spf L = none
    · have e : spr L = ([], false) := by unfold spr; rw [c]
      rw [e]
      simp only []
      rw [if_neg Bool.false_ne_true, if_neg Bool.false_ne_true, if_pos (by rfl), ifmt (-3) (by omega) (by omega)]
      simp only [Option.bind_some]
      have e3 : Lib.itoa (-3) = [45, 51] := by
        unfold Lib.itoa
        rw [if_pos (by omega), show (-3 : Int).natAbs = 3 from rfl, Lib.decDigits_one (by omega)]
        rfl
      rw [ByteArray.toList_eq, e3]
      rfl
    · obtain ⟨ps, hps⟩ : ∃ ps, spf L = some ps := Option.ne_none_iff_exists'.1 c
      have e : spr L = (ps.map tx, true) := by unfold spr; rw [hps]
      have hf : ps = Lib.fields L ∧ L.length ≤ 600 ∧ L.any bad = false ∧ ps.length ≤ 24 := by
        unfold spf at hps
        by_cases c1 : 600 < L.length ∨ L.any bad = true
        · rw [if_pos c1] at hps; cases hps
        · rw [if_neg c1] at hps
          by_cases c2 : 24 < (Lib.fields L).length
          · rw [if_pos c2] at hps; cases hps
          · rw [if_neg c2] at hps
            have h3 := Option.some.inj hps
            have h4 : ¬ L.any bad = true := fun z => c1 (Or.inr z)
            exact ⟨h3.symm, by rcases Nat.lt_or_ge 600 L.length with z | z; exact absurd (Or.inl z) c1; exact z, by simpa using h4, by rw [← h3]; omega⟩
      have hgood := fieldsGo_good L [] (fun b hb => by have := List.any_eq_false.1 hf.2.2.1 b hb; simpa using this) (by simp)
      have hlen := fieldsGo_len L []
      have hps2 : Lib.fieldsGo [] L = ps := hf.1.symm
      rw [hps2] at hgood hlen
      rw [e]
      simp only []
      rw [if_pos trivial]
      obtain ⟨j, hj, ej, kj⟩ := fa_loop ps true (fun p hp => by have := hlen p hp; simp at this; omega) hf.2.2.2 ps (l.length + 5000) [] [] (by simp) (by simp; omega) (by omega)
      have e0 : (⟨#[]⟩ : ByteArray) = tx [] := rfl
      have e00 : (0 : Int) = ((([] : List (List UInt8)).length : Nat) : Int) := rfl
      rw [e0, e00, ej, List.nil_append]
      simp only [laws_FnFieldsAgain.l0]
      rw [if_neg (by simp), ispl]
      simp only [Option.bind_some]
      rw [tx_size, tx_list]
      obtain ⟨J, hJ⟩ : ∃ J, (ps.flatMap fun p => p ++ [32]) = J := ⟨_, rfl⟩
      have hfj := fields_join ps (fun p hp => ⟨(hgood p hp).1, fun b hb => ((hgood p hp).2 b hb).2⟩)
      rw [hJ] at hfj ⊢
      have hbadj : J.any bad = false := by
        rw [List.any_eq_false]
        intro b hb
        rw [← hJ] at hb
        obtain ⟨p, hp, hb⟩ := List.mem_flatMap.1 hb
        rcases List.mem_append.1 hb with hb | hb
        · rw [((hgood p hp).2 b hb).1]; simp
        · obtain rfl := List.mem_singleton.1 hb; decide
      try rw [if_pos rfl]
      by_cases c6 : (J.length : Int) > 600
      · rw [if_pos c6]
        first | rfl | exact if_pos trivial
      · have hs2 : spr J = (ps.map tx, true) := by
          unfold spr spf
          have h1 : ¬ (600 < J.length ∨ J.any bad = true) := by rw [hbadj]; intro z; rcases z with z | z; omega; cases z
          rw [if_neg h1, hfj, if_neg (by omega)]
        rw [if_neg c6, hs2]
        simp only []
        try rw [if_pos rfl]
        rw [same_self _ (by simp; omega) j (by simp; omega)]
        rfl

end Go.Proofs.YtcpmkcidehhbiaaDoor.Pure
