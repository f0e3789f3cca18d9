/- Walks of the functions that a statement reaches, written by a program (the printing program, mended): no condition. -/
import Derived.Test.YtcpmkcidehhbiaaGreatDoorPFnExactParseProgramx0
import Derived.Test.YtcpmkcidehhbiaaGreatDoorPFnExactParseProgramx12
import Derived.Test.YtcpmkcidehhbiaaGreatDoorPFnExactParseProgramx14
import Derived.Test.YtcpmkcidehhbiaaGreatDoorPFnExactParseProgramx15
import Derived.Test.YtcpmkcidehhbiaaGreatDoorPFnExactParseProgramx16
namespace Go.Proofs.YtcpmkcidehhbiaaGreatDoor.PFnExactParseProgram
open Go.RowKit Go.Proofs.YtcpmkcidehhbiaaGreatDoorW.PrintWords Go.Proofs.YtcpmkcidehhbiaaGreatDoorW.PrintLast Go.Proofs.YtcpmkcidehhbiaaGreatDoorW.PrintMore
attribute [local go_sem] max2_int min2_int max_two min_two max_three min_three max_four min_four
set_option linter.unusedVariables false
set_option maxRecDepth 100000
set_option maxHeartbeats 8000000
set_option linter.unusedSimpArgs false
def impl_ProgramOk.l0 : Nat → List (S40) → Int → Option (Bool)
 | 0, _, _ => none
 | k + 1, x0, x => if x < (x0.length : Int) then (if 0 ≤ x then ((impl_taskOk.f k ((rd_T40 x0 x).f0) ((rd_T40 x0 x).f1.f0) ((rd_T40 x0 x).f1.f1) ((rd_T40 x0 x).f1.f2)).bind fun t => (if t = true then (impl_ProgramOk.l0 k x0 (x + 1)) else (some false))) else (none)) else (some true)
def impl_ProgramOk.f (k : Nat) (l0_0 : List (S40)) : Option (Bool) := (impl_within.f (l0_0.length : Int) 1 6).bind fun t => (if t = true then (impl_ProgramOk.l0 k l0_0 0) else (some false))
theorem impl_ProgramOk.mono_l : ∀ k, (∀ y0 y1, LeO (impl_ProgramOk.l0 k y0 y1) (impl_ProgramOk.l0 (k + 1) y0 y1))
 | 0 => fun _ _ r h => by simp [impl_ProgramOk.l0] at h
 | k + 1 => by
  have ih0 := impl_ProgramOk.mono_l k
  intro y0 y1
  unfold impl_ProgramOk.l0
  repeat' first | (with_reducible first | exact ih0 _ _ | exact LeO.refl _ | exact LeO.none _ | refine LeO.ite ?_ ?_ | refine LeO.bind ?_ (fun _ => ?_) | exact impl_taskOk.mono _ _ _ _ _) | exact ih0 _ _ | exact LeO.none _ | refine LeO.ite ?_ ?_ | refine LeO.bind ?_ (fun _ => ?_)
theorem impl_ProgramOk.mono : ∀ a0 k, LeO (impl_ProgramOk.f k a0) (impl_ProgramOk.f (k + 1) a0) := by
 intro a0 k
 have ih0 := impl_ProgramOk.mono_l k
 unfold impl_ProgramOk.f
 repeat' first | (with_reducible first | exact ih0 _ _ | exact LeO.refl _ | exact LeO.none _ | refine LeO.ite ?_ ?_ | refine LeO.bind ?_ (fun _ => ?_)) | exact ih0 _ _ | exact LeO.none _ | refine LeO.ite ?_ ?_ | refine LeO.bind ?_ (fun _ => ?_)
theorem impl_ProgramOk.fn (k : Nat) (A0 : Option Addr) (c0 : Nat) (l0 : List (S35)) (a1 a2 a3 : Int) (t : Bool) (w : World) (hr0 : Kd.C k35 w A0 l0.length l0) (hc0 : l0.length ≤ c0) (h : impl_taskOk.f k l0 a1 a2 a3 = some t) :
  Calls Tryz.prog 56 #[.agg #[.slice A0 l0.length c0, .int .i64 a1, .int .i64 a2, .int .i64 a3]] w fun e w' => e = .returned (.bool (!t)) ∧ Below w.heap.size w w' := by
 have hv := zM h
 have HR := zM hr0
 have HC := zM hc0
 clear h hr0 hc0
 go_enter Tryz.func56, Tryz.ntmps56
 have HB0 := zM (Below.refl w.heap.size w)
 go_wp2_with (go_at_call 57; (with_reducible refine (impl_taskOk.calls k A0 c0 l0 a1 a2 a3 t _ ?side1 HC.out hv.out).mono ?_); (case side1 => (repeat (first | exact HR.out | (with_reducible refine zF ?_ _) | (with_reducible refine zG ?_ _) | (with_reducible refine zH ?_)))); rintro e w' ⟨rfl, hb⟩; have HB := zM (zQ (by repeat (first | (with_reducible first | exact HB0.out | apply z2 | apply z3 | apply z4) | exact HB0.out)) hb); clear hb)
 go_ret
 exact ⟨by first | rfl | (simp; done), zb⟩
def impl_ProgramOk.Found (r : Bool) (w : World) (e : Ending) (w' : World) : Prop := (∃ i : Int, e = .returned (.int .i64 i) ∧ decide (0 ≤ i) = !r) ∧ Below w.heap.size w w'
theorem impl_ProgramOk.idx (k : Nat) (A0 : Option Addr) (c0 : Nat) (l0 : List (S40)) (r : Bool) (w : World) (hr0 : Kd.C k40 w A0 l0.length l0) (hc0 : l0.length ≤ c0) (h : impl_ProgramOk.l0 k l0 0 = some r) :
  Calls Tryz.prog 72 #[.slice A0 l0.length c0, .func (.func 56) #[] #[]] w (impl_ProgramOk.Found r w) := by
 have HR0 := zM hr0
 have hsz := hr0.2.1
 have H' := zM h
 clear hr0 hc0 h
 have HBk := zM (Below.refl w.heap.size w)
 go_enter Tryz.func72, Tryz.ntmps72
 go_wp2
 go_loopg [5, 8] k (fun kq v5 v8 wr => ∃ x : Int, v8 = .int .i64 x ∧ 0 ≤ x ∧ x ≤ (l0.length : Int) ∧ Aside0 (impl_ProgramOk.l0 kq l0 x = some r) ∧ Aside0 (Below w.heap.size w wr))
 case atStart => exact ⟨0, rfl, by omega, by omega, H', HBk⟩
 case round =>
  clear HBk H'
  obtain ⟨x, rfl, h0, h1, HA, HB⟩ := hrel
  cases gk with
  | zero => exact absurd HA.out (by simp [impl_ProgramOk.l0])
  | succ k1 =>
   have H := HA.out
   clear HA
   simp only [impl_ProgramOk.l0] at H
   by_cases hlt : x < (l0.length : Int)
   ·rw [if_pos hlt, if_pos h0] at H
    replace H := Option.bind_eq_some_iff.mp H
    obtain ⟨t, A50, H⟩ := H
    obtain ⟨ad, A1, c1, ea, hx0, hx1, hx2, hx3, hl1, hi1⟩ := at_T40 HR0.out x h0 hlt
    cases ea
    replace hx0 := (HB.out.cell (zm w _ hx0)).trans hx0
    replace hx1 := (HB.out.cell (zm w _ hx1)).trans hx1
    replace hx2 := (HB.out.cell (zm w _ hx2)).trans hx2
    replace hx3 := (HB.out.cell (zm w _ hx3)).trans hx3
    have HR1 := zM hi1
    have HC1 := zM hl1
    have A5 := zM A50
    clear hi1 hl1 A50
    have hd : decide (x < (l0.length : Int)) = true := decide_eq_true hlt
    cases t with
    | true =>
     have HH := zM (show impl_ProgramOk.l0 k1 l0 (x + 1) = some r from by rw [if_pos rfl] at H; exact H)
     clear H
     go_wp2_with (go_at_call 56; (with_reducible refine (impl_ProgramOk.fn k1 A1 c1 ((rd_T40 l0 x).f0) ((rd_T40 l0 x).f1.f0) ((rd_T40 l0 x).f1.f1) ((rd_T40 l0 x).f1.f2) true _ ?side1 HC1.out A5.out).mono ?_); (case side1 => exact zX HR1.out zb); rintro e w' ⟨rfl, hb⟩; have HB2 := zM (zQ zb hb); clear hb)
     go_roundg k1
     case measure => omega
     case rel => exact ⟨x + 1, rfl, by omega, by omega, HH, ⟨by repeat (first | (with_reducible first | exact HB2.out | apply z2 | apply z3 | apply z4) | exact HB2.out)⟩⟩
    | false =>
     have hr : false = r := by rw [if_neg (by simp)] at H; exact Option.some.inj H
     have HH := zM hr
     clear H hr
     go_wp2_with (go_at_call 56; (with_reducible refine (impl_ProgramOk.fn k1 A1 c1 ((rd_T40 l0 x).f0) ((rd_T40 l0 x).f1.f0) ((rd_T40 l0 x).f1.f1) ((rd_T40 l0 x).f1.f2) false _ ?side1 HC1.out A5.out).mono ?_); (case side1 => exact zX HR1.out zb); rintro e w' ⟨rfl, hb⟩; have HB2 := zM (zQ zb hb); clear hb)
     go_ret
     exact ⟨⟨x, rfl, by rw [← HH.out]; simp; omega⟩, by repeat (first | (with_reducible first | exact HB2.out | apply z2 | apply z3 | apply z4) | exact HB2.out)⟩
   rw [if_neg hlt] at H
   have Hn := zM (Option.some.inj H)
   have hd : decide (x < (l0.length : Int)) = false := decide_eq_false hlt
   clear H
   go_wp2
   go_ret
   exact ⟨⟨-1, rfl, by rw [← Hn.out]; rfl⟩, zb⟩
theorem impl_ProgramOk.con (k : Nat) (A0 : Option Addr) (c0 : Nat) (l0 : List (S40)) (r : Bool) (w : World) (hr0 : Kd.C k40 w A0 l0.length l0) (hc0 : l0.length ≤ c0) (h : impl_ProgramOk.l0 k l0 0 = some r) :
  Calls Tryz.prog 55 #[.slice A0 l0.length c0, .func (.func 56) #[] #[]] w fun e w' => e = .returned (.bool (!r)) ∧ Below w.heap.size w w' := by
 have hi := zM (impl_ProgramOk.idx k A0 c0 l0 r w hr0 hc0 h)
 clear h hr0 hc0
 go_enter Tryz.func55, Tryz.ntmps55
 go_wp2_with (go_at_call 72; refine hi.out.mono ?_; rintro e w' ⟨⟨i, rfl, hq⟩, hb⟩; have HQ := zM hq; have HB := zM hb; clear hq hb)
 go_ret
 exact ⟨by rw [← HQ.out]; rfl, HB.out⟩
theorem impl_ProgramOk.calls (k : Nat) (A0_0 : Option Addr) (c0_0 : Nat) (l0_0 : List (S40)) (r : Bool) (w : World) (hr0_0 : Kd.C k40 w A0_0 l0_0.length l0_0) (hc0_0 : l0_0.length ≤ c0_0) (h : impl_ProgramOk.f k l0_0 = some r) :
  Calls Tryz.prog 40 #[.agg #[.slice A0_0 l0_0.length c0_0]] w fun e w' => e = .returned (.bool r) ∧ Below w.heap.size w w' := by
 have HR0 := zM hr0_0
 have HC0 := zM hc0_0
 clear hr0_0 hc0_0
 unfold impl_ProgramOk.f at h
 replace h := Option.bind_eq_some_iff.mp h
 obtain ⟨t, A10, H⟩ := h
 have A1 := zM A10
 clear A10
 have HB := zM (Below.refl w.heap.size w)
 cases t with
 | true =>
  have HH := zM (show impl_ProgramOk.l0 k l0_0 0 = some r from by rw [if_pos rfl] at H; exact H)
  clear H
  go_enter Tryz.func40, Tryz.ntmps40
  go_wp2_with (first | (go_at_call 51; refine (impl_within.calls (l0_0.length : Int) 1 6 true _ A1.out).mono ?_; rintro e w' ⟨rfl, ⟨nd, rfl⟩⟩) | (go_at_call 55; (with_reducible refine (impl_ProgramOk.con k A0_0 c0_0 l0_0 r _ ?side1 HC0.out HH.out).mono ?_); (case side1 => (repeat (first | exact HR0.out | (with_reducible refine zF ?_ _) | (with_reducible refine zG ?_ _) | (with_reducible refine zH ?_)))); rintro e w' ⟨rfl, hb⟩; have HB2 := zM (zQ zb hb); clear hb))
  go_ret
  exact ⟨by first | rfl | (simp; done), by repeat (first | (with_reducible first | exact HB2.out | apply z2 | apply z3 | apply z4) | exact HB2.out)⟩
 | false =>
  have hr : false = r := by rw [if_neg (by simp)] at H; exact Option.some.inj H
  subst hr
  clear H
  go_enter Tryz.func40, Tryz.ntmps40
  go_wp2_with (go_at_call 51; refine (impl_within.calls (l0_0.length : Int) 1 6 false _ A1.out).mono ?_; rintro e w' ⟨rfl, ⟨nd, rfl⟩⟩)
  go_ret
  exact ⟨by first | rfl | (simp; done), zb⟩
def impl_ProgramText.inner (k : Nat) : List S35 → List UInt8 → Option (List UInt8)
 | [], acc => some acc
 | s :: r, acc => (impl_FormatStmt.f k s.f0 s.f1 s.f2 s.f3.f0 s.f3.f1 s.f3.f2).bind fun t => if acc.length + t.size + 1 ≤ 140737488355328 then impl_ProgramText.inner k r (acc ++ (t.data.toList ++ [10])) else none
def impl_ProgramText.outer (k : Nat) : List S40 → List UInt8 → Option (List UInt8)
 | [], acc => some acc
 | s :: r, acc => (impl_taskLine.f k s.f1.f0 s.f1.f1 s.f1.f2).bind fun t => if acc.length + t.size + 1 ≤ 140737488355328 then (impl_ProgramText.inner k s.f0 (acc ++ (t.data.toList ++ [10]))).bind fun acc' => impl_ProgramText.outer k r acc' else none
def impl_ProgramText.f (k : Nat) (l0_0 : List S40) : Option ByteArray := (impl_ProgramOk.f k l0_0).bind fun t => if t = true then (impl_ProgramText.outer k l0_0 []).bind fun acc => some ⟨acc.toArray⟩ else some ⟨#[]⟩
theorem impl_ProgramText.mono_inner (k : Nat) : ∀ (l : List S35) (acc : List UInt8), LeO (impl_ProgramText.inner k l acc) (impl_ProgramText.inner (k + 1) l acc)
 | [], _ => LeO.refl _
 | s :: r, acc => by
  unfold impl_ProgramText.inner
  refine LeO.bind (impl_FormatStmt.mono _ _ _ _ _ _ _) (fun _ => ?_)
  exact LeO.ite (impl_ProgramText.mono_inner k r _) (LeO.none _)
theorem impl_ProgramText.mono_outer (k : Nat) : ∀ (l : List S40) (acc : List UInt8), LeO (impl_ProgramText.outer k l acc) (impl_ProgramText.outer (k + 1) l acc)
 | [], _ => LeO.refl _
 | s :: r, acc => by
  unfold impl_ProgramText.outer
  refine LeO.bind (impl_taskLine.mono _ _ _ _) (fun _ => ?_)
  exact LeO.ite (LeO.bind (impl_ProgramText.mono_inner k _ _) (fun _ => impl_ProgramText.mono_outer k r _)) (LeO.none _)
theorem impl_ProgramText.mono : ∀ a0 k, LeO (impl_ProgramText.f k a0) (impl_ProgramText.f (k + 1) a0) := by
 intro a0 k
 unfold impl_ProgramText.f
 refine LeO.bind (impl_ProgramOk.mono _ _) (fun _ => ?_)
 exact LeO.ite (LeO.bind (impl_ProgramText.mono_outer k _ _) (fun _ => LeO.refl _)) (LeO.refl _)
theorem impl_ProgramText.bw_below {T e B b : Nat} {bs : List Value} {W W' : World} (h : Lib.IsBuilderF T e B b bs W) (hb : Below W.heap.size W W') : Lib.IsBuilderF T e B b bs W' := by
 have key : ∀ p, Lib.BuilderAtF T e B b p bs W → Lib.BuilderAtF T e B b p bs W' := by
  rintro p ⟨h1, v, h2, h3, h4⟩
  refine ⟨h1, v, z7 h2 hb, ⟨h3.1, ?_⟩, h4⟩
  rcases h3.2 with hn | ⟨g, cap, cur, fz, hv, hg, hh, rest⟩
  ·exact .inl hn
  exact .inr ⟨g, cap, cur, fz, hv, hg, z7 hh hb, rest⟩
 exact h.imp (key _) (key _)
theorem impl_ProgramText.bw_start (T e B : Nat) (W : World) (hB : B ≤ W.heap.size) : Lib.IsBuilderF T e B W.heap.size [] (W.alloc (.cells #[.pointer none, .slice none 0 0] T)) :=
 .inl ⟨hB, .slice none 0 0, blk_new W _, World.ownsRowF_nil _ _ _ _, by simp [Value.ownBlock]⟩
theorem impl_ProgramText.bw_lt {T e B b : Nat} {bs : List Value} {W : World} (h : Lib.IsBuilderF T e B b bs W) : b < W.heap.size := by
 rcases h with h | h
 ·exact h.lt
 exact h.lt
theorem impl_ProgramText.cells_app (acc : List UInt8) (t : ByteArray) : Lib.byteCells acc ++ Lib.strCells (t ++ ⟨#[10]⟩) = Lib.byteCells (acc ++ (t.data.toList ++ [10])) := by
 have e : (t ++ (⟨#[10]⟩ : ByteArray)).data.toList = t.data.toList ++ [10] := by rw [ByteArray.data_append]; simp
 unfold Lib.strCells Lib.byteCells
 rw [e, List.map_append, List.map_append, List.map_append]
theorem impl_ProgramText.cells_len (acc : List UInt8) (t : ByteArray) (h : acc.length + t.size + 1 ≤ 140737488355328) : (Lib.byteCells acc).length + (t ++ (⟨#[10]⟩ : ByteArray)).size ≤ 140737488355328 := by
 rw [ByteArray.size_append]
 have : (⟨#[10]⟩ : ByteArray).size = 1 := rfl
 unfold Lib.byteCells
 rw [List.length_map]
 omega
theorem impl_ProgramText.kept_blk {W W' : World} {g b : Nat} {cs : Array Value} {T : Nat} (hk : Lib.OthersKept 5 (some b) W W') (h : W.heap[g]? = some (.cells cs T (0, 0))) (hb : g ≠ b) (hT : T ≠ 5) : W'.heap[g]? = some (.cells cs T (0, 0)) :=
 hk g _ h (by simpa using hb) (fun c fz e => by injection e with _ e2 _; exact hT e2)
theorem impl_ProgramText.drop_at {α : Type} (l : List α) (d : α) (x : Nat) (h : x < l.length) : l.drop x = l.getD x d :: l.drop (x + 1) := by
 rw [List.drop_eq_getElem_cons h]
 simp [List.getD, h]
theorem impl_ProgramText.calls (k : Nat) (A0_0 : Option Addr) (c0_0 : Nat) (l0_0 : List S40) (r : ByteArray) (w : World) (hr0_0 : Kd.C k40 w A0_0 l0_0.length l0_0) (hc0_0 : l0_0.length ≤ c0_0) (h : impl_ProgramText.f k l0_0 = some r) (hGL : GL w := by first | exact HGL.out | exact GL.below HGL.out (by repeat (first | (with_reducible first | exact HB.out | apply z2 | apply z3 | apply z4 | refine zS ?_ (Aside0.out (by assumption))) | exact HB.out))) :
  Calls Tryz.prog 17 #[.agg #[.slice A0_0 l0_0.length c0_0]] w fun e w' => e = .returned (.string r) ∧ Below w.heap.size w w' := by
 have HG := zM hGL
 have HR0 := zM hr0_0
 have HC0 := zM hc0_0
 have hlen0 := hr0_0.2.1
 clear hGL hr0_0 hc0_0
 have HBk := zM (Below.refl w.heap.size w)
 unfold impl_ProgramText.f at h
 replace h := Option.bind_eq_some_iff.mp h
 obtain ⟨t, A10, H⟩ := h
 have A1 := zM A10
 clear A10
 cases t with
 | false =>
  have hr : (⟨#[]⟩ : ByteArray) = r := by rw [if_neg (by simp)] at H; exact Option.some.inj H
  subst hr
  clear H
  go_enter Tryz.func17, Tryz.ntmps17
  go_wp2_with (go_at_call 40; (with_reducible refine (impl_ProgramOk.calls k A0_0 c0_0 l0_0 false _ ?side1 HC0.out A1.out).mono ?_); (case side1 => (repeat (first | exact HR0.out | (with_reducible refine zF ?_ _) | (with_reducible refine zG ?_ _) | (with_reducible refine zH ?_)))); rintro e w' ⟨rfl, hb⟩; have HB := zM (zQ (by repeat (first | (with_reducible first | exact HBk.out | apply z2 | apply z3 | apply z4) | exact HBk.out)) hb); clear hb)
  go_ret
  exact ⟨by first | rfl | (simp; done), zb⟩
 | true =>
  rw [if_pos rfl] at H
  replace H := Option.bind_eq_some_iff.mp H
  obtain ⟨accR, HO0, H⟩ := H
  obtain rfl := Option.some.inj H
  have HO := zM HO0
  clear H HO0
  go_enter Tryz.func17, Tryz.ntmps17
  go_wp2_with (go_at_call 40; (with_reducible refine (impl_ProgramOk.calls k A0_0 c0_0 l0_0 true _ ?side1 HC0.out A1.out).mono ?_); (case side1 => (repeat (first | exact HR0.out | (with_reducible refine zF ?_ _) | (with_reducible refine zG ?_ _) | (with_reducible refine zH ?_)))); rintro e wp ⟨rfl, hb⟩; have hblk := z7 (blk_new w (.cells #[.slice A0_0 l0_0.length c0_0] 24)) hb; have hpc := fun o => z5 (zP hblk o) 0; simp only [List.getElem?_toArray, List.getElem?_cons_zero] at hpc; have HB := zM (zQ (by repeat (first | (with_reducible first | exact HBk.out | apply z2 | apply z3 | apply z4) | exact HBk.out)) hb); clear hb)
  have hwp : w.heap.size ≤ wp.heap.size := zR HB.out
  have HW0 := zM (impl_ProgramText.bw_start 72 5 w.heap.size wp hwp)
  go_loopg [15] l0_0.length (fun kq v15 wr => ∃ (x : Nat) (acc : List UInt8), v15 = .int .i64 (x : Int) ∧ Aside0 (x + kq = l0_0.length) ∧ Aside0 (impl_ProgramText.outer k (l0_0.drop x) acc = some accR) ∧ Aside0 (Below w.heap.size w wr) ∧ Aside0 (Lib.IsBuilderF 72 5 w.heap.size wp.heap.size (Lib.byteCells acc) wr))
  case atStart => exact ⟨0, [], rfl, ⟨by omega⟩, ⟨by simpa using HO.out⟩, ⟨zb⟩, HW0⟩
  case round =>
   clear HO HBk HW0 hpc hblk
   obtain ⟨x, acc, rfl, HX, HO, HBr, HW⟩ := hrel
   by_cases hlt : x < l0_0.length
   ·obtain ⟨k1, rfl⟩ : ∃ m, gk = m + 1 := ⟨gk - 1, by have := HX.out; omega⟩
    have hlt2 : (x : Int) < (l0_0.length : Int) := by omega
    have hd : decide ((x : Int) < (l0_0.length : Int)) = true := decide_eq_true hlt2
    have HO2 := HO.out
    clear HO
    rw [impl_ProgramText.drop_at l0_0 z40 x hlt] at HO2
    have hrd : l0_0.getD x z40 = rd_T40 l0_0 (x : Int) := by unfold rd_T40; rw [Int.toNat_natCast]
    rw [hrd] at HO2
    obtain ⟨ad, A1, c1, ea, hx0, hx1, hx2, hx3, hl1, hi1⟩ := at_T40 HR0.out (x : Int) (by omega) hlt2
    cases ea
    rw [Int.toNat_natCast] at hx0 hx1 hx2 hx3
    replace hx0 := (HBr.out.cell (zm w _ hx0)).trans hx0
    replace hx1 := (HBr.out.cell (zm w _ hx1)).trans hx1
    replace hx2 := (HBr.out.cell (zm w _ hx2)).trans hx2
    replace hx3 := (HBr.out.cell (zm w _ hx3)).trans hx3
    have HR1 := zM hi1
    have HC1 := zM hl1
    have hlen1 := hi1.2.1
    clear hi1 hl1 hrd
    obtain ⟨T, hT⟩ : ∃ T, rd_T40 l0_0 (x : Int) = T := ⟨_, rfl⟩
    rw [hT] at HO2 hx0 hx1 hx2 hx3 HR1 HC1 hlen1
    clear hT
    simp only [impl_ProgramText.outer] at HO2
    replace HO2 := Option.bind_eq_some_iff.mp HO2
    obtain ⟨tl, A20, HO2⟩ := HO2
    have A2 := zM A20
    clear A20
    by_cases hbd : acc.length + tl.size + 1 ≤ 140737488355328
    ·rw [if_pos hbd] at HO2
     replace HO2 := Option.bind_eq_some_iff.mp HO2
     obtain ⟨acc1, A30, HO3⟩ := HO2
     have A3 := zM A30
     have HO := zM HO3
     have HBD := zM hbd
     have hsz : (9223372036854775807 < tl.size + 1) = False := eq_false (by omega)
     clear A30 HO3 hbd
     have hbw := impl_ProgramText.bw_lt HW.out
     go_wp2_with (first
      | (go_at_call 33; (with_reducible refine (impl_taskLine.calls k T.f1.f0 T.f1.f1 T.f1.f2 tl _ A2.out (GL.below HG.out (by repeat (first | (with_reducible first | exact HBr.out | apply z2 | apply z3 | apply z4) | exact HBr.out)))).mono ?_); rintro e w1 ⟨rfl, hb⟩; have HB1 := zM (zQ (z2 HBr.out _) hb); have HW1 := zM (impl_ProgramText.bw_below (HW.out.alloc _) hb); have HK1 := zM (z7 (blk_new wr _) hb); clear hb)
      | (go_at_call 41; have hcw := Tryz.Builder_WriteString_k w.heap.size wp.heap.size (Lib.byteCells acc) (tl ++ ⟨#[10]⟩) _ HW1.out (impl_ProgramText.cells_len acc tl HBD.out) (zR HB1.out); (with_reducible refine hcw.mono ?_); clear hcw; rintro e w2 ⟨rfl, hbw2, hb, hok⟩; have HB2 := zM (HB1.out.trans hb); have HW2 := zM (show Lib.IsBuilderF 72 5 w.heap.size wp.heap.size (Lib.byteCells (acc ++ (tl.data.toList ++ [10]))) w2 from by rw [← impl_ProgramText.cells_app]; exact .inr hbw2); have hq0 : w2.cell? ⟨wr.heap.size, 0, none⟩ = some (.slice A1 T.f0.length c1) := (z5 (impl_ProgramText.kept_blk hok HK1.out (by omega) (by decide)) 0).trans rfl; clear hb hok hbw2))
     clear HBr HW hx0 hx1 hx2 hx3
     go_loopg [27] T.f0.length (fun kq v27 wi => ∃ (y : Nat) (ac : List UInt8), v27 = .int .i64 (y : Int) ∧ Aside0 (y + kq = T.f0.length) ∧ Aside0 (impl_ProgramText.inner k (T.f0.drop y) ac = some acc1) ∧ Aside0 (Below w.heap.size w wi) ∧ Aside0 (Lib.IsBuilderF 72 5 w.heap.size wp.heap.size (Lib.byteCells ac) wi))
     case atStart => exact ⟨0, _, rfl, ⟨by omega⟩, ⟨by simpa using A3.out⟩, HB2, HW2⟩
     case round =>
      clear HB2 HW2 A3
      obtain ⟨y, ac, rfl, HY, HI, HBi, HWi⟩ := hrel
      by_cases hly : y < T.f0.length
      ·obtain ⟨k2, rfl⟩ : ∃ m, gk = m + 1 := ⟨gk - 1, by have := HY.out; omega⟩
       have hly2 : (y : Int) < (T.f0.length : Int) := by omega
       have hd2 : decide ((y : Int) < (T.f0.length : Int)) = true := decide_eq_true hly2
       have HI2 := HI.out
       clear HI
       rw [impl_ProgramText.drop_at T.f0 z35 y hly] at HI2
       have hrd : T.f0.getD y z35 = rd_T35 T.f0 (y : Int) := by unfold rd_T35; rw [Int.toNat_natCast]
       rw [hrd] at HI2
       obtain ⟨ad2, ea2, hy0, hy1, hy2, hy3, hy4, hy5⟩ := at_T35 HR1.out (y : Int) (by omega) hly2
       cases ea2
       rw [Int.toNat_natCast] at hy0 hy1 hy2 hy3 hy4 hy5
       replace hy0 := (HBi.out.cell (zm w _ hy0)).trans hy0
       replace hy1 := (HBi.out.cell (zm w _ hy1)).trans hy1
       replace hy2 := (HBi.out.cell (zm w _ hy2)).trans hy2
       replace hy3 := (HBi.out.cell (zm w _ hy3)).trans hy3
       replace hy4 := (HBi.out.cell (zm w _ hy4)).trans hy4
       replace hy5 := (HBi.out.cell (zm w _ hy5)).trans hy5
       clear hrd
       obtain ⟨S, hS⟩ : ∃ S, rd_T35 T.f0 (y : Int) = S := ⟨_, rfl⟩
       rw [hS] at HI2 hy0 hy1 hy2 hy3 hy4 hy5
       clear hS
       simp only [impl_ProgramText.inner] at HI2
       replace HI2 := Option.bind_eq_some_iff.mp HI2
       obtain ⟨st, A40, HI3⟩ := HI2
       have A4 := zM A40
       clear A40
       by_cases hbe : ac.length + st.size + 1 ≤ 140737488355328
       ·rw [if_pos hbe] at HI3
        have HI := zM HI3
        have HBE := zM hbe
        have hsz2 : (9223372036854775807 < st.size + 1) = False := eq_false (by omega)
        clear HI3 hbe
        go_wp2_with (first
         | (go_at_call 39; (with_reducible refine (impl_FormatStmt.calls k S.f0 S.f1 S.f2 S.f3.f0 S.f3.f1 S.f3.f2 st _ A4.out (GL.below HG.out (by repeat (first | (with_reducible first | exact HBi.out | apply z2 | apply z3 | apply z4) | exact HBi.out)))).mono ?_); rintro e w1 ⟨rfl, hb⟩; have HB1 := zM (zQ (z2 HBi.out _) hb); have HW1 := zM (impl_ProgramText.bw_below (HWi.out.alloc _) hb); clear hb)
         | (go_at_call 41; have hcw := Tryz.Builder_WriteString_k w.heap.size wp.heap.size (Lib.byteCells ac) (st ++ ⟨#[10]⟩) _ HW1.out (impl_ProgramText.cells_len ac st HBE.out) (zR HB1.out); (with_reducible refine hcw.mono ?_); clear hcw; rintro e w2 ⟨rfl, hbw2, hb, hok⟩; have HB2 := zM (HB1.out.trans hb); have HW2 := zM (show Lib.IsBuilderF 72 5 w.heap.size wp.heap.size (Lib.byteCells (ac ++ (st.data.toList ++ [10]))) w2 from by rw [← impl_ProgramText.cells_app]; exact .inr hbw2); clear hb hok hbw2))
        go_roundg k2
        case measure => omega
        case rel => exact ⟨y + 1, _, rfl, ⟨by have := HY.out; omega⟩, HI, ⟨by repeat (first | (with_reducible first | exact HB2.out | apply z2 | apply z3 | apply z4) | exact HB2.out)⟩, HW2⟩
       rw [if_neg hbe] at HI3; cases HI3
      have hd2 : decide ((y : Int) < (T.f0.length : Int)) = false := decide_eq_false (by omega)
      have he : ac = acc1 := by have z := HI.out; rw [List.drop_eq_nil_of_le (by omega)] at z; exact Option.some.inj z
      subst he
      go_wp2
      go_roundg k1
      case measure => omega
      case rel => exact ⟨x + 1, _, rfl, ⟨by have := HX.out; omega⟩, HO, ⟨by repeat (first | (with_reducible first | exact HBi.out | apply z2 | apply z3 | apply z4) | exact HBi.out)⟩, HWi⟩
    rw [if_neg hbd] at HO2; cases HO2
   have hd : decide ((x : Int) < (l0_0.length : Int)) = false := decide_eq_false (by omega)
   have he : acc = accR := by have z := HO.out; rw [List.drop_eq_nil_of_le (by omega)] at z; exact Option.some.inj z
   subst he
   go_wp2_with (go_at_call 42; have hcw := Tryz.Builder_String_any_k w.heap.size wp.heap.size acc _ HW.out (zR HBr.out); (with_reducible refine hcw.mono ?_); clear hcw; rintro e w1 ⟨rfl, -, hb, -⟩; have HB1 := zM (HBr.out.trans hb); clear hb)
   go_ret
   exact ⟨rfl, HB1.out⟩
end Go.Proofs.YtcpmkcidehhbiaaGreatDoor.PFnExactParseProgram
