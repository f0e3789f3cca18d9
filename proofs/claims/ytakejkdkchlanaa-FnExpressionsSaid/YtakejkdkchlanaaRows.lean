/-
  No cell of these rows narrows 'for every input' (looked for: loops, veiled, ifaces, maps, wideKeys, modest, calm, conditions, laid).
  DERIVED. THE GIVEN ROWS OF THIS SEAT. 15 by the template 'for every input the law returns true; each argument reads behind the call as it read before'; 0 by the template 'total and deterministic' (their statements: YtakejkdkchlanaaTotals.lean).
  GIVEN WITH THE SEED: the statements are not yours to turn. If you find one false, say at which input.
  Laid BY PROGRAM, IN A SANDBOX (cutbox-rows.mjs): the forced cells as the released guide's own fill.sh prints them over the translation 064426bc19e1d645… (all of the seat's roots in one cut). By AI agents, Wed Nov 11 2026. No macro, syntax, notation, axiom, sorry.
-/
import Derived.Test.YtakejkdkchlanaaChecked
import GoSem.Claim
import GoSem.ClaimJoined
import GoSem.ClaimMapViews
import Derived.JoinedTies
import Derived.KernelRfl
namespace Go.Proofs.Ytakejkdkchlanaa
/- THE CELL 'sum', in the pinned program and in every row, IS THE sha256 OF THE DUMP (.gsa) THAT YtakejkdkchlanaaProg.lean LOADS. Nothing in Lean hashes anything: it is a label: what it is worth is what the hold of that sum in a sandbox is worth. -/
noncomputable def Try.pinned : Pinned := { name := "ytakejkdkchlanaa", sum := "064426bc19e1d645223215cd85d83b4d2ed492c906fd17db62a49bfb192f6991", checked := Try.checked }
namespace Rows
def none {H : Type} : Left H := { results := [], args := [] }

/-- 'laws.FnExactFirstDiffering': WHATEVER THE INPUT: true; the input reads as it did. -/
def fnExactFirstDifferingSpec : ChangeSpec := { name := "fnExactFirstDiffering", fn := fun _ => fun
  | [d1, d2] => { results := [.lit (.bool true)], args := [d1, d2] }
  | _ => none }
def fnExactFirstDifferingRow : OpenClaim := { program := "ytakejkdkchlanaa", sum := "064426bc19e1d645223215cd85d83b4d2ed492c906fd17db62a49bfb192f6991", func := "loop.example/g00983/laws.FnExactFirstDiffering", spec := "fnExactFirstDiffering", apart := false }
def FnExactFirstDifferingSaid : Prop := fnExactFirstDifferingRow.holds Try.pinned (OpenSpec.ofChange fnExactFirstDifferingSpec)

/-- ITS FALSE NEIGHBOUR: 'it returns false'. Refute it at one input. -/
def fnExactFirstDifferingWrong : ChangeSpec := { name := "fnExactFirstDiffering", fn := fun _ => fun
  | [d1, d2] => { results := [.lit (.bool false)], args := [d1, d2] }
  | _ => none }
def FnExactFirstDifferingWrongFalsely : Prop := fnExactFirstDifferingRow.holds Try.pinned (OpenSpec.ofChange fnExactFirstDifferingWrong)

/-- 'laws.FnExactHasVar': WHATEVER THE INPUT: true; the input reads as it did. -/
def fnExactHasVarSpec : ChangeSpec := { name := "fnExactHasVar", fn := fun _ => fun
  | [d1, d2] => { results := [.lit (.bool true)], args := [d1, d2] }
  | _ => none }
def fnExactHasVarRow : OpenClaim := { program := "ytakejkdkchlanaa", sum := "064426bc19e1d645223215cd85d83b4d2ed492c906fd17db62a49bfb192f6991", func := "loop.example/g00983/laws.FnExactHasVar", spec := "fnExactHasVar", apart := false }
def FnExactHasVarSaid : Prop := fnExactHasVarRow.holds Try.pinned (OpenSpec.ofChange fnExactHasVarSpec)

/-- ITS FALSE NEIGHBOUR: 'it returns false'. Refute it at one input. -/
def fnExactHasVarWrong : ChangeSpec := { name := "fnExactHasVar", fn := fun _ => fun
  | [d1, d2] => { results := [.lit (.bool false)], args := [d1, d2] }
  | _ => none }
def FnExactHasVarWrongFalsely : Prop := fnExactHasVarRow.holds Try.pinned (OpenSpec.ofChange fnExactHasVarWrong)

/-- 'laws.FnExactVarsOk': WHATEVER THE INPUT: true; the input reads as it did. -/
def fnExactVarsOkSpec : ChangeSpec := { name := "fnExactVarsOk", fn := fun _ => fun
  | [d] => { results := [.lit (.bool true)], args := [d] }
  | _ => none }
def fnExactVarsOkRow : OpenClaim := { program := "ytakejkdkchlanaa", sum := "064426bc19e1d645223215cd85d83b4d2ed492c906fd17db62a49bfb192f6991", func := "loop.example/g00983/laws.FnExactVarsOk", spec := "fnExactVarsOk", unfollowed := true, recurses := true, apart := false }
def FnExactVarsOkSaid : Prop := fnExactVarsOkRow.holds Try.pinned (OpenSpec.ofChange fnExactVarsOkSpec)

/-- ITS FALSE NEIGHBOUR: 'it returns false'. Refute it at one input. -/
def fnExactVarsOkWrong : ChangeSpec := { name := "fnExactVarsOk", fn := fun _ => fun
  | [d] => { results := [.lit (.bool false)], args := [d] }
  | _ => none }
def FnExactVarsOkWrongFalsely : Prop := fnExactVarsOkRow.holds Try.pinned (OpenSpec.ofChange fnExactVarsOkWrong)

/-- 'laws.FnExactMemVars': WHATEVER THE INPUT: true; the input reads as it did. -/
def fnExactMemVarsSpec : ChangeSpec := { name := "fnExactMemVars", fn := fun _ => fun
  | [d] => { results := [.lit (.bool true)], args := [d] }
  | _ => none }
def fnExactMemVarsRow : OpenClaim := { program := "ytakejkdkchlanaa", sum := "064426bc19e1d645223215cd85d83b4d2ed492c906fd17db62a49bfb192f6991", func := "loop.example/g00983/laws.FnExactMemVars", spec := "fnExactMemVars", apart := false }
def FnExactMemVarsSaid : Prop := fnExactMemVarsRow.holds Try.pinned (OpenSpec.ofChange fnExactMemVarsSpec)

/-- ITS FALSE NEIGHBOUR: 'it returns false'. Refute it at one input. -/
def fnExactMemVarsWrong : ChangeSpec := { name := "fnExactMemVars", fn := fun _ => fun
  | [d] => { results := [.lit (.bool false)], args := [d] }
  | _ => none }
def FnExactMemVarsWrongFalsely : Prop := fnExactMemVarsRow.holds Try.pinned (OpenSpec.ofChange fnExactMemVarsWrong)

/-- 'laws.FnExactWriteWord': WHATEVER THE INPUT: true; the input reads as it did. -/
def fnExactWriteWordSpec : ChangeSpec := { name := "fnExactWriteWord", fn := fun _ => fun
  | [d1, d2] => { results := [.lit (.bool true)], args := [d1, d2] }
  | _ => none }
def fnExactWriteWordRow : OpenClaim := { program := "ytakejkdkchlanaa", sum := "064426bc19e1d645223215cd85d83b4d2ed492c906fd17db62a49bfb192f6991", func := "loop.example/g00983/laws.FnExactWriteWord", spec := "fnExactWriteWord", apart := false }
def FnExactWriteWordSaid : Prop := fnExactWriteWordRow.holds Try.pinned (OpenSpec.ofChange fnExactWriteWordSpec)

/-- ITS FALSE NEIGHBOUR: 'it returns false'. Refute it at one input. -/
def fnExactWriteWordWrong : ChangeSpec := { name := "fnExactWriteWord", fn := fun _ => fun
  | [d1, d2] => { results := [.lit (.bool false)], args := [d1, d2] }
  | _ => none }
def FnExactWriteWordWrongFalsely : Prop := fnExactWriteWordRow.holds Try.pinned (OpenSpec.ofChange fnExactWriteWordWrong)

/-- 'laws.FnExactOperandValue': WHATEVER THE INPUT: true; the input reads as it did. -/
def fnExactOperandValueSpec : ChangeSpec := { name := "fnExactOperandValue", fn := fun _ => fun
  | [d1, d2] => { results := [.lit (.bool true)], args := [d1, d2] }
  | _ => none }
def fnExactOperandValueRow : OpenClaim := { program := "ytakejkdkchlanaa", sum := "064426bc19e1d645223215cd85d83b4d2ed492c906fd17db62a49bfb192f6991", func := "loop.example/g00983/laws.FnExactOperandValue", spec := "fnExactOperandValue", unfollowed := true, recurses := true, apart := false }
def FnExactOperandValueSaid : Prop := fnExactOperandValueRow.holds Try.pinned (OpenSpec.ofChange fnExactOperandValueSpec)

/-- ITS FALSE NEIGHBOUR: 'it returns false'. Refute it at one input. -/
def fnExactOperandValueWrong : ChangeSpec := { name := "fnExactOperandValue", fn := fun _ => fun
  | [d1, d2] => { results := [.lit (.bool false)], args := [d1, d2] }
  | _ => none }
def FnExactOperandValueWrongFalsely : Prop := fnExactOperandValueRow.holds Try.pinned (OpenSpec.ofChange fnExactOperandValueWrong)

/-- 'laws.FnExactMemNew': WHATEVER THE INPUT: true; the input reads as it did. -/
def fnExactMemNewSpec : ChangeSpec := { name := "fnExactMemNew", fn := fun _ => fun
  | [d] => { results := [.lit (.bool true)], args := [d] }
  | _ => none }
def fnExactMemNewRow : OpenClaim := { program := "ytakejkdkchlanaa", sum := "064426bc19e1d645223215cd85d83b4d2ed492c906fd17db62a49bfb192f6991", func := "loop.example/g00983/laws.FnExactMemNew", spec := "fnExactMemNew", unfollowed := true, recurses := true, apart := false }
def FnExactMemNewSaid : Prop := fnExactMemNewRow.holds Try.pinned (OpenSpec.ofChange fnExactMemNewSpec)

/-- ITS FALSE NEIGHBOUR: 'it returns false'. Refute it at one input. -/
def fnExactMemNewWrong : ChangeSpec := { name := "fnExactMemNew", fn := fun _ => fun
  | [d] => { results := [.lit (.bool false)], args := [d] }
  | _ => none }
def FnExactMemNewWrongFalsely : Prop := fnExactMemNewRow.holds Try.pinned (OpenSpec.ofChange fnExactMemNewWrong)

/-- 'laws.FnExactMemSent': WHATEVER THE INPUT: true; the input reads as it did. -/
def fnExactMemSentSpec : ChangeSpec := { name := "fnExactMemSent", fn := fun _ => fun
  | [d] => { results := [.lit (.bool true)], args := [d] }
  | _ => none }
def fnExactMemSentRow : OpenClaim := { program := "ytakejkdkchlanaa", sum := "064426bc19e1d645223215cd85d83b4d2ed492c906fd17db62a49bfb192f6991", func := "loop.example/g00983/laws.FnExactMemSent", spec := "fnExactMemSent", apart := false }
def FnExactMemSentSaid : Prop := fnExactMemSentRow.holds Try.pinned (OpenSpec.ofChange fnExactMemSentSpec)

/-- ITS FALSE NEIGHBOUR: 'it returns false'. Refute it at one input. -/
def fnExactMemSentWrong : ChangeSpec := { name := "fnExactMemSent", fn := fun _ => fun
  | [d] => { results := [.lit (.bool false)], args := [d] }
  | _ => none }
def FnExactMemSentWrongFalsely : Prop := fnExactMemSentRow.holds Try.pinned (OpenSpec.ofChange fnExactMemSentWrong)

/-- 'laws.FnExactApplyWrites': WHATEVER THE INPUT: true; the input reads as it did. -/
def fnExactApplyWritesSpec : ChangeSpec := { name := "fnExactApplyWrites", fn := fun _ => fun
  | [d1, d2, d3] => { results := [.lit (.bool true)], args := [d1, d2, d3] }
  | _ => none }
def fnExactApplyWritesRow : OpenClaim := { program := "ytakejkdkchlanaa", sum := "064426bc19e1d645223215cd85d83b4d2ed492c906fd17db62a49bfb192f6991", func := "loop.example/g00983/laws.FnExactApplyWrites", spec := "fnExactApplyWrites", apart := false }
def FnExactApplyWritesSaid : Prop := fnExactApplyWritesRow.holds Try.pinned (OpenSpec.ofChange fnExactApplyWritesSpec)

/-- ITS FALSE NEIGHBOUR: 'it returns false'. Refute it at one input. -/
def fnExactApplyWritesWrong : ChangeSpec := { name := "fnExactApplyWrites", fn := fun _ => fun
  | [d1, d2, d3] => { results := [.lit (.bool false)], args := [d1, d2, d3] }
  | _ => none }
def FnExactApplyWritesWrongFalsely : Prop := fnExactApplyWritesRow.holds Try.pinned (OpenSpec.ofChange fnExactApplyWritesWrong)

/-- 'laws.FnExactEvalExpr': WHATEVER THE INPUT: true; the input reads as it did. -/
def fnExactEvalExprSpec : ChangeSpec := { name := "fnExactEvalExpr", fn := fun _ => fun
  | [d1, d2] => { results := [.lit (.bool true)], args := [d1, d2] }
  | _ => none }
def fnExactEvalExprRow : OpenClaim := { program := "ytakejkdkchlanaa", sum := "064426bc19e1d645223215cd85d83b4d2ed492c906fd17db62a49bfb192f6991", func := "loop.example/g00983/laws.FnExactEvalExpr", spec := "fnExactEvalExpr", unfollowed := true, recurses := true, apart := false }
def FnExactEvalExprSaid : Prop := fnExactEvalExprRow.holds Try.pinned (OpenSpec.ofChange fnExactEvalExprSpec)

/-- ITS FALSE NEIGHBOUR: 'it returns false'. Refute it at one input. -/
def fnExactEvalExprWrong : ChangeSpec := { name := "fnExactEvalExpr", fn := fun _ => fun
  | [d1, d2] => { results := [.lit (.bool false)], args := [d1, d2] }
  | _ => none }
def FnExactEvalExprWrongFalsely : Prop := fnExactEvalExprRow.holds Try.pinned (OpenSpec.ofChange fnExactEvalExprWrong)

/-- 'laws.FnOperands': WHATEVER THE INPUT: true; the input reads as it did. -/
def fnOperandsSpec : ChangeSpec := { name := "fnOperands", fn := fun _ => fun
  | [d] => { results := [.lit (.bool true)], args := [d] }
  | _ => none }
def fnOperandsRow : OpenClaim := { program := "ytakejkdkchlanaa", sum := "064426bc19e1d645223215cd85d83b4d2ed492c906fd17db62a49bfb192f6991", func := "loop.example/g00983/laws.FnOperands", spec := "fnOperands", unfollowed := true, recurses := true, apart := false }
def FnOperandsSaid : Prop := fnOperandsRow.holds Try.pinned (OpenSpec.ofChange fnOperandsSpec)

/-- ITS FALSE NEIGHBOUR: 'it returns false'. Refute it at one input. -/
def fnOperandsWrong : ChangeSpec := { name := "fnOperands", fn := fun _ => fun
  | [d] => { results := [.lit (.bool false)], args := [d] }
  | _ => none }
def FnOperandsWrongFalsely : Prop := fnOperandsRow.holds Try.pinned (OpenSpec.ofChange fnOperandsWrong)

/-- 'laws.FnExactEncodeHex': WHATEVER THE INPUT: true; the input reads as it did. -/
def fnExactEncodeHexSpec : ChangeSpec := { name := "fnExactEncodeHex", fn := fun _ => fun
  | [d] => { results := [.lit (.bool true)], args := [d] }
  | _ => none }
def fnExactEncodeHexRow : OpenClaim := { program := "ytakejkdkchlanaa", sum := "064426bc19e1d645223215cd85d83b4d2ed492c906fd17db62a49bfb192f6991", func := "loop.example/g00983/laws.FnExactEncodeHex", spec := "fnExactEncodeHex", apart := false }
def FnExactEncodeHexSaid : Prop := fnExactEncodeHexRow.holds Try.pinned (OpenSpec.ofChange fnExactEncodeHexSpec)

/-- ITS FALSE NEIGHBOUR: 'it returns false'. Refute it at one input. -/
def fnExactEncodeHexWrong : ChangeSpec := { name := "fnExactEncodeHex", fn := fun _ => fun
  | [d] => { results := [.lit (.bool false)], args := [d] }
  | _ => none }
def FnExactEncodeHexWrongFalsely : Prop := fnExactEncodeHexRow.holds Try.pinned (OpenSpec.ofChange fnExactEncodeHexWrong)

/-- 'laws.FnExactDecodeHex': WHATEVER THE INPUT: true; the input reads as it did. -/
def fnExactDecodeHexSpec : ChangeSpec := { name := "fnExactDecodeHex", fn := fun _ => fun
  | [d] => { results := [.lit (.bool true)], args := [d] }
  | _ => none }
def fnExactDecodeHexRow : OpenClaim := { program := "ytakejkdkchlanaa", sum := "064426bc19e1d645223215cd85d83b4d2ed492c906fd17db62a49bfb192f6991", func := "loop.example/g00983/laws.FnExactDecodeHex", spec := "fnExactDecodeHex", apart := false }
def FnExactDecodeHexSaid : Prop := fnExactDecodeHexRow.holds Try.pinned (OpenSpec.ofChange fnExactDecodeHexSpec)

/-- ITS FALSE NEIGHBOUR: 'it returns false'. Refute it at one input. -/
def fnExactDecodeHexWrong : ChangeSpec := { name := "fnExactDecodeHex", fn := fun _ => fun
  | [d] => { results := [.lit (.bool false)], args := [d] }
  | _ => none }
def FnExactDecodeHexWrongFalsely : Prop := fnExactDecodeHexRow.holds Try.pinned (OpenSpec.ofChange fnExactDecodeHexWrong)

/-- 'laws.FnExactReadsOf': WHATEVER THE INPUT: true; the input reads as it did. -/
def fnExactReadsOfSpec : ChangeSpec := { name := "fnExactReadsOf", fn := fun _ => fun
  | [d] => { results := [.lit (.bool true)], args := [d] }
  | _ => none }
def fnExactReadsOfRow : OpenClaim := { program := "ytakejkdkchlanaa", sum := "064426bc19e1d645223215cd85d83b4d2ed492c906fd17db62a49bfb192f6991", func := "loop.example/g00983/laws.FnExactReadsOf", spec := "fnExactReadsOf", recurses := true, apart := false }
def FnExactReadsOfSaid : Prop := fnExactReadsOfRow.holds Try.pinned (OpenSpec.ofChange fnExactReadsOfSpec)

/-- ITS FALSE NEIGHBOUR: 'it returns false'. Refute it at one input. -/
def fnExactReadsOfWrong : ChangeSpec := { name := "fnExactReadsOf", fn := fun _ => fun
  | [d] => { results := [.lit (.bool false)], args := [d] }
  | _ => none }
def FnExactReadsOfWrongFalsely : Prop := fnExactReadsOfRow.holds Try.pinned (OpenSpec.ofChange fnExactReadsOfWrong)

/-- 'laws.FnExpressions': WHATEVER THE INPUT: true; the input reads as it did. -/
def fnExpressionsSpec : ChangeSpec := { name := "fnExpressions", fn := fun _ => fun
  | [d] => { results := [.lit (.bool true)], args := [d] }
  | _ => none }
def fnExpressionsRow : OpenClaim := { program := "ytakejkdkchlanaa", sum := "064426bc19e1d645223215cd85d83b4d2ed492c906fd17db62a49bfb192f6991", func := "loop.example/g00983/laws.FnExpressions", spec := "fnExpressions", unfollowed := true, recurses := true, apart := false }
def FnExpressionsSaid : Prop := fnExpressionsRow.holds Try.pinned (OpenSpec.ofChange fnExpressionsSpec)

/-- ITS FALSE NEIGHBOUR: 'it returns false'. Refute it at one input. -/
def fnExpressionsWrong : ChangeSpec := { name := "fnExpressions", fn := fun _ => fun
  | [d] => { results := [.lit (.bool false)], args := [d] }
  | _ => none }
def FnExpressionsWrongFalsely : Prop := fnExpressionsRow.holds Try.pinned (OpenSpec.ofChange fnExpressionsWrong)

/- THE SECOND FORM. 'bulk': how many values and letters a reading holds, each counted each time it is reached (what is shared counts as often as it is met; a slice's spare places count too). A statement '..UptoSaid' is the law's where the arguments, and the package variables that the reading takes, are together of bulk at most 1048576: NARROWER than '..Said'. Prove '..Said' where nothing that the law and all that it calls make is longer than what came in: it says more and counts as full. Else prove '..UptoSaid'. A law counts once. -/
mutual
def uptoBulk {H : Type} : DataW H → Nat
  | .lit (.string bytes) => bytes.length + 1
  | .lit _ => 1
  | .nil => 1
  | .ptr d => uptoBulk d + 1
  | .slice elems spare => uptoBulkAll elems + uptoBulkAll spare + 1
  | .agg parts => uptoBulkAll parts + 1
  | .iface _ d => uptoBulk d + 1
  | .map entries => uptoBulkEntries entries + 1
  | .held _ => 1
def uptoBulkAll {H : Type} : List (DataW H) → Nat
  | [] => 0
  | d :: r => uptoBulk d + uptoBulkAll r
def uptoBulkEntries {H : Type} : List (Lit × DataW H) → Nat
  | [] => 0
  | x :: r => uptoBulkEntry x + uptoBulkEntries r
def uptoBulkEntry {H : Type} : Lit × DataW H → Nat
  | (.string bytes, d) => bytes.length + uptoBulk d + 1
  | (_, d) => uptoBulk d + 1
 end
def uptoSmall : (H : Type) → List (DataW H) → Bool := fun _ ds => decide (uptoBulkAll ds ≤ 1048576)
def OpenSpec.upto (s : _root_.Go.ChangeSpec) : _root_.Go.OpenSpec := { _root_.Go.OpenSpec.ofChange s with cond := some uptoSmall }

/-- 'laws.FnExactFirstDiffering', WHERE WHAT IT READS IS OF BULK AT MOST 1048576: true; the input reads as it did. -/
def fnExactFirstDifferingUptoRow : OpenClaim := { program := "ytakejkdkchlanaa", sum := "064426bc19e1d645223215cd85d83b4d2ed492c906fd17db62a49bfb192f6991", func := "loop.example/g00983/laws.FnExactFirstDiffering", spec := "fnExactFirstDiffering", apart := false, narrowed := true }
def FnExactFirstDifferingUptoSaid : Prop := fnExactFirstDifferingUptoRow.holds Try.pinned (OpenSpec.upto fnExactFirstDifferingSpec)

/-- 'laws.FnExactHasVar', WHERE WHAT IT READS IS OF BULK AT MOST 1048576: true; the input reads as it did. -/
def fnExactHasVarUptoRow : OpenClaim := { program := "ytakejkdkchlanaa", sum := "064426bc19e1d645223215cd85d83b4d2ed492c906fd17db62a49bfb192f6991", func := "loop.example/g00983/laws.FnExactHasVar", spec := "fnExactHasVar", apart := false, narrowed := true }
def FnExactHasVarUptoSaid : Prop := fnExactHasVarUptoRow.holds Try.pinned (OpenSpec.upto fnExactHasVarSpec)

/-- 'laws.FnExactVarsOk', WHERE WHAT IT READS IS OF BULK AT MOST 1048576: true; the input reads as it did. -/
def fnExactVarsOkUptoRow : OpenClaim := { program := "ytakejkdkchlanaa", sum := "064426bc19e1d645223215cd85d83b4d2ed492c906fd17db62a49bfb192f6991", func := "loop.example/g00983/laws.FnExactVarsOk", spec := "fnExactVarsOk", unfollowed := true, recurses := true, apart := false, narrowed := true }
def FnExactVarsOkUptoSaid : Prop := fnExactVarsOkUptoRow.holds Try.pinned (OpenSpec.upto fnExactVarsOkSpec)

/-- 'laws.FnExactMemVars', WHERE WHAT IT READS IS OF BULK AT MOST 1048576: true; the input reads as it did. -/
def fnExactMemVarsUptoRow : OpenClaim := { program := "ytakejkdkchlanaa", sum := "064426bc19e1d645223215cd85d83b4d2ed492c906fd17db62a49bfb192f6991", func := "loop.example/g00983/laws.FnExactMemVars", spec := "fnExactMemVars", apart := false, narrowed := true }
def FnExactMemVarsUptoSaid : Prop := fnExactMemVarsUptoRow.holds Try.pinned (OpenSpec.upto fnExactMemVarsSpec)

/-- 'laws.FnExactWriteWord', WHERE WHAT IT READS IS OF BULK AT MOST 1048576: true; the input reads as it did. -/
def fnExactWriteWordUptoRow : OpenClaim := { program := "ytakejkdkchlanaa", sum := "064426bc19e1d645223215cd85d83b4d2ed492c906fd17db62a49bfb192f6991", func := "loop.example/g00983/laws.FnExactWriteWord", spec := "fnExactWriteWord", apart := false, narrowed := true }
def FnExactWriteWordUptoSaid : Prop := fnExactWriteWordUptoRow.holds Try.pinned (OpenSpec.upto fnExactWriteWordSpec)

/-- 'laws.FnExactOperandValue', WHERE WHAT IT READS IS OF BULK AT MOST 1048576: true; the input reads as it did. -/
def fnExactOperandValueUptoRow : OpenClaim := { program := "ytakejkdkchlanaa", sum := "064426bc19e1d645223215cd85d83b4d2ed492c906fd17db62a49bfb192f6991", func := "loop.example/g00983/laws.FnExactOperandValue", spec := "fnExactOperandValue", unfollowed := true, recurses := true, apart := false, narrowed := true }
def FnExactOperandValueUptoSaid : Prop := fnExactOperandValueUptoRow.holds Try.pinned (OpenSpec.upto fnExactOperandValueSpec)

/-- 'laws.FnExactMemNew', WHERE WHAT IT READS IS OF BULK AT MOST 1048576: true; the input reads as it did. -/
def fnExactMemNewUptoRow : OpenClaim := { program := "ytakejkdkchlanaa", sum := "064426bc19e1d645223215cd85d83b4d2ed492c906fd17db62a49bfb192f6991", func := "loop.example/g00983/laws.FnExactMemNew", spec := "fnExactMemNew", unfollowed := true, recurses := true, apart := false, narrowed := true }
def FnExactMemNewUptoSaid : Prop := fnExactMemNewUptoRow.holds Try.pinned (OpenSpec.upto fnExactMemNewSpec)

/-- 'laws.FnExactMemSent', WHERE WHAT IT READS IS OF BULK AT MOST 1048576: true; the input reads as it did. -/
def fnExactMemSentUptoRow : OpenClaim := { program := "ytakejkdkchlanaa", sum := "064426bc19e1d645223215cd85d83b4d2ed492c906fd17db62a49bfb192f6991", func := "loop.example/g00983/laws.FnExactMemSent", spec := "fnExactMemSent", apart := false, narrowed := true }
def FnExactMemSentUptoSaid : Prop := fnExactMemSentUptoRow.holds Try.pinned (OpenSpec.upto fnExactMemSentSpec)

/-- 'laws.FnExactApplyWrites', WHERE WHAT IT READS IS OF BULK AT MOST 1048576: true; the input reads as it did. -/
def fnExactApplyWritesUptoRow : OpenClaim := { program := "ytakejkdkchlanaa", sum := "064426bc19e1d645223215cd85d83b4d2ed492c906fd17db62a49bfb192f6991", func := "loop.example/g00983/laws.FnExactApplyWrites", spec := "fnExactApplyWrites", apart := false, narrowed := true }
def FnExactApplyWritesUptoSaid : Prop := fnExactApplyWritesUptoRow.holds Try.pinned (OpenSpec.upto fnExactApplyWritesSpec)

/-- 'laws.FnExactEvalExpr', WHERE WHAT IT READS IS OF BULK AT MOST 1048576: true; the input reads as it did. -/
def fnExactEvalExprUptoRow : OpenClaim := { program := "ytakejkdkchlanaa", sum := "064426bc19e1d645223215cd85d83b4d2ed492c906fd17db62a49bfb192f6991", func := "loop.example/g00983/laws.FnExactEvalExpr", spec := "fnExactEvalExpr", unfollowed := true, recurses := true, apart := false, narrowed := true }
def FnExactEvalExprUptoSaid : Prop := fnExactEvalExprUptoRow.holds Try.pinned (OpenSpec.upto fnExactEvalExprSpec)

/-- 'laws.FnOperands', WHERE WHAT IT READS IS OF BULK AT MOST 1048576: true; the input reads as it did. -/
def fnOperandsUptoRow : OpenClaim := { program := "ytakejkdkchlanaa", sum := "064426bc19e1d645223215cd85d83b4d2ed492c906fd17db62a49bfb192f6991", func := "loop.example/g00983/laws.FnOperands", spec := "fnOperands", unfollowed := true, recurses := true, apart := false, narrowed := true }
def FnOperandsUptoSaid : Prop := fnOperandsUptoRow.holds Try.pinned (OpenSpec.upto fnOperandsSpec)

/-- 'laws.FnExactEncodeHex', WHERE WHAT IT READS IS OF BULK AT MOST 1048576: true; the input reads as it did. -/
def fnExactEncodeHexUptoRow : OpenClaim := { program := "ytakejkdkchlanaa", sum := "064426bc19e1d645223215cd85d83b4d2ed492c906fd17db62a49bfb192f6991", func := "loop.example/g00983/laws.FnExactEncodeHex", spec := "fnExactEncodeHex", apart := false, narrowed := true }
def FnExactEncodeHexUptoSaid : Prop := fnExactEncodeHexUptoRow.holds Try.pinned (OpenSpec.upto fnExactEncodeHexSpec)

/-- 'laws.FnExactDecodeHex', WHERE WHAT IT READS IS OF BULK AT MOST 1048576: true; the input reads as it did. -/
def fnExactDecodeHexUptoRow : OpenClaim := { program := "ytakejkdkchlanaa", sum := "064426bc19e1d645223215cd85d83b4d2ed492c906fd17db62a49bfb192f6991", func := "loop.example/g00983/laws.FnExactDecodeHex", spec := "fnExactDecodeHex", apart := false, narrowed := true }
def FnExactDecodeHexUptoSaid : Prop := fnExactDecodeHexUptoRow.holds Try.pinned (OpenSpec.upto fnExactDecodeHexSpec)

/-- 'laws.FnExactReadsOf', WHERE WHAT IT READS IS OF BULK AT MOST 1048576: true; the input reads as it did. -/
def fnExactReadsOfUptoRow : OpenClaim := { program := "ytakejkdkchlanaa", sum := "064426bc19e1d645223215cd85d83b4d2ed492c906fd17db62a49bfb192f6991", func := "loop.example/g00983/laws.FnExactReadsOf", spec := "fnExactReadsOf", recurses := true, apart := false, narrowed := true }
def FnExactReadsOfUptoSaid : Prop := fnExactReadsOfUptoRow.holds Try.pinned (OpenSpec.upto fnExactReadsOfSpec)

/-- 'laws.FnExpressions', WHERE WHAT IT READS IS OF BULK AT MOST 1048576: true; the input reads as it did. -/
def fnExpressionsUptoRow : OpenClaim := { program := "ytakejkdkchlanaa", sum := "064426bc19e1d645223215cd85d83b4d2ed492c906fd17db62a49bfb192f6991", func := "loop.example/g00983/laws.FnExpressions", spec := "fnExpressions", unfollowed := true, recurses := true, apart := false, narrowed := true }
def FnExpressionsUptoSaid : Prop := fnExpressionsUptoRow.holds Try.pinned (OpenSpec.upto fnExpressionsSpec)

end Rows
end Go.Proofs.Ytakejkdkchlanaa
