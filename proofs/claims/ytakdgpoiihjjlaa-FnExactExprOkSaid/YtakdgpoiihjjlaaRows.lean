/-
  No cell of these rows narrows 'for every input' (looked for: loops, veiled, ifaces, maps, wideKeys, modest, calm, conditions, laid).
  DERIVED. THE GIVEN ROWS OF THIS SEAT. 16 by the template 'for every input the law returns true; each argument reads behind the call as it read before'; 0 by the template 'total and deterministic' (their statements: YtakdgpoiihjjlaaTotals.lean).
  GIVEN WITH THE SEED: the statements are not yours to turn. If you find one false, say at which input.
  Laid BY PROGRAM, IN A SANDBOX (cutbox-rows.mjs): the forced cells as the released guide's own fill.sh prints them over the translation f7bbc5df95e1e7ae… (all of the seat's roots in one cut). By AI agents, Wed Nov 11 2026. No macro, syntax, notation, axiom, sorry.
-/
import Derived.Test.YtakdgpoiihjjlaaChecked
import GoSem.Claim
import GoSem.ClaimJoined
import GoSem.ClaimMapViews
import Derived.JoinedTies
import Derived.KernelRfl
namespace Go.Proofs.Ytakdgpoiihjjlaa
/- THE CELL 'sum', in the pinned program and in every row, IS THE sha256 OF THE DUMP (.gsa) THAT YtakdgpoiihjjlaaProg.lean LOADS. Nothing in Lean hashes anything: it is a label: what it is worth is what the hold of that sum in a sandbox is worth. -/
noncomputable def Try.pinned : Pinned := { name := "ytakdgpoiihjjlaa", sum := "f7bbc5df95e1e7ae2df6e611a710c5e7329dfcc09c1c630244fbbc254439ffbc", checked := Try.checked }
namespace Rows
def none {H : Type} : Left H := { results := [], args := [] }

/-- 'laws.FnExactConstants': WHATEVER THE INPUT: true; the input reads as it did. -/
def fnExactConstantsSpec : ChangeSpec := { name := "fnExactConstants", fn := fun _ => fun
  | [] => { results := [.lit (.bool true)], args := [] }
  | _ => none }
def fnExactConstantsRow : OpenClaim := { program := "ytakdgpoiihjjlaa", sum := "f7bbc5df95e1e7ae2df6e611a710c5e7329dfcc09c1c630244fbbc254439ffbc", func := "loop.example/g00983/laws.FnExactConstants", spec := "fnExactConstants", apart := false }
def FnExactConstantsSaid : Prop := fnExactConstantsRow.holds Try.pinned (OpenSpec.ofChange fnExactConstantsSpec)

/-- ITS FALSE NEIGHBOUR: 'it returns false'. Refute it at one input. -/
def fnExactConstantsWrong : ChangeSpec := { name := "fnExactConstants", fn := fun _ => fun
  | [] => { results := [.lit (.bool false)], args := [] }
  | _ => none }
def FnExactConstantsWrongFalsely : Prop := fnExactConstantsRow.holds Try.pinned (OpenSpec.ofChange fnExactConstantsWrong)

/-- 'laws.FnExactIsValue': WHATEVER THE INPUT: true; the input reads as it did. -/
def fnExactIsValueSpec : ChangeSpec := { name := "fnExactIsValue", fn := fun _ => fun
  | [d] => { results := [.lit (.bool true)], args := [d] }
  | _ => none }
def fnExactIsValueRow : OpenClaim := { program := "ytakdgpoiihjjlaa", sum := "f7bbc5df95e1e7ae2df6e611a710c5e7329dfcc09c1c630244fbbc254439ffbc", func := "loop.example/g00983/laws.FnExactIsValue", spec := "fnExactIsValue", apart := false }
def FnExactIsValueSaid : Prop := fnExactIsValueRow.holds Try.pinned (OpenSpec.ofChange fnExactIsValueSpec)

/-- ITS FALSE NEIGHBOUR: 'it returns false'. Refute it at one input. -/
def fnExactIsValueWrong : ChangeSpec := { name := "fnExactIsValue", fn := fun _ => fun
  | [d] => { results := [.lit (.bool false)], args := [d] }
  | _ => none }
def FnExactIsValueWrongFalsely : Prop := fnExactIsValueRow.holds Try.pinned (OpenSpec.ofChange fnExactIsValueWrong)

/-- 'laws.FnExactOperandOk': WHATEVER THE INPUT: true; the input reads as it did. -/
def fnExactOperandOkSpec : ChangeSpec := { name := "fnExactOperandOk", fn := fun _ => fun
  | [d] => { results := [.lit (.bool true)], args := [d] }
  | _ => none }
def fnExactOperandOkRow : OpenClaim := { program := "ytakdgpoiihjjlaa", sum := "f7bbc5df95e1e7ae2df6e611a710c5e7329dfcc09c1c630244fbbc254439ffbc", func := "loop.example/g00983/laws.FnExactOperandOk", spec := "fnExactOperandOk", apart := false }
def FnExactOperandOkSaid : Prop := fnExactOperandOkRow.holds Try.pinned (OpenSpec.ofChange fnExactOperandOkSpec)

/-- ITS FALSE NEIGHBOUR: 'it returns false'. Refute it at one input. -/
def fnExactOperandOkWrong : ChangeSpec := { name := "fnExactOperandOk", fn := fun _ => fun
  | [d] => { results := [.lit (.bool false)], args := [d] }
  | _ => none }
def FnExactOperandOkWrongFalsely : Prop := fnExactOperandOkRow.holds Try.pinned (OpenSpec.ofChange fnExactOperandOkWrong)

/-- 'laws.FnExactPackControl': WHATEVER THE INPUT: true; the input reads as it did. -/
def fnExactPackControlSpec : ChangeSpec := { name := "fnExactPackControl", fn := fun _ => fun
  | [d1, d2, d3] => { results := [.lit (.bool true)], args := [d1, d2, d3] }
  | _ => none }
def fnExactPackControlRow : OpenClaim := { program := "ytakdgpoiihjjlaa", sum := "f7bbc5df95e1e7ae2df6e611a710c5e7329dfcc09c1c630244fbbc254439ffbc", func := "loop.example/g00983/laws.FnExactPackControl", spec := "fnExactPackControl", apart := false }
def FnExactPackControlSaid : Prop := fnExactPackControlRow.holds Try.pinned (OpenSpec.ofChange fnExactPackControlSpec)

/-- ITS FALSE NEIGHBOUR: 'it returns false'. Refute it at one input. -/
def fnExactPackControlWrong : ChangeSpec := { name := "fnExactPackControl", fn := fun _ => fun
  | [d1, d2, d3] => { results := [.lit (.bool false)], args := [d1, d2, d3] }
  | _ => none }
def FnExactPackControlWrongFalsely : Prop := fnExactPackControlRow.holds Try.pinned (OpenSpec.ofChange fnExactPackControlWrong)

/-- 'laws.FnExactClamp': WHATEVER THE INPUT: true; the input reads as it did. -/
def fnExactClampSpec : ChangeSpec := { name := "fnExactClamp", fn := fun _ => fun
  | [d1, d2, d3] => { results := [.lit (.bool true)], args := [d1, d2, d3] }
  | _ => none }
def fnExactClampRow : OpenClaim := { program := "ytakdgpoiihjjlaa", sum := "f7bbc5df95e1e7ae2df6e611a710c5e7329dfcc09c1c630244fbbc254439ffbc", func := "loop.example/g00983/laws.FnExactClamp", spec := "fnExactClamp", apart := false }
def FnExactClampSaid : Prop := fnExactClampRow.holds Try.pinned (OpenSpec.ofChange fnExactClampSpec)

/-- ITS FALSE NEIGHBOUR: 'it returns false'. Refute it at one input. -/
def fnExactClampWrong : ChangeSpec := { name := "fnExactClamp", fn := fun _ => fun
  | [d1, d2, d3] => { results := [.lit (.bool false)], args := [d1, d2, d3] }
  | _ => none }
def FnExactClampWrongFalsely : Prop := fnExactClampRow.holds Try.pinned (OpenSpec.ofChange fnExactClampWrong)

/-- 'laws.FnExactExprOk': WHATEVER THE INPUT: true; the input reads as it did. -/
def fnExactExprOkSpec : ChangeSpec := { name := "fnExactExprOk", fn := fun _ => fun
  | [d] => { results := [.lit (.bool true)], args := [d] }
  | _ => none }
def fnExactExprOkRow : OpenClaim := { program := "ytakdgpoiihjjlaa", sum := "f7bbc5df95e1e7ae2df6e611a710c5e7329dfcc09c1c630244fbbc254439ffbc", func := "loop.example/g00983/laws.FnExactExprOk", spec := "fnExactExprOk", apart := false }
def FnExactExprOkSaid : Prop := fnExactExprOkRow.holds Try.pinned (OpenSpec.ofChange fnExactExprOkSpec)

/-- ITS FALSE NEIGHBOUR: 'it returns false'. Refute it at one input. -/
def fnExactExprOkWrong : ChangeSpec := { name := "fnExactExprOk", fn := fun _ => fun
  | [d] => { results := [.lit (.bool false)], args := [d] }
  | _ => none }
def FnExactExprOkWrongFalsely : Prop := fnExactExprOkRow.holds Try.pinned (OpenSpec.ofChange fnExactExprOkWrong)

/-- 'laws.FnExactSaturate': WHATEVER THE INPUT: true; the input reads as it did. -/
def fnExactSaturateSpec : ChangeSpec := { name := "fnExactSaturate", fn := fun _ => fun
  | [d] => { results := [.lit (.bool true)], args := [d] }
  | _ => none }
def fnExactSaturateRow : OpenClaim := { program := "ytakdgpoiihjjlaa", sum := "f7bbc5df95e1e7ae2df6e611a710c5e7329dfcc09c1c630244fbbc254439ffbc", func := "loop.example/g00983/laws.FnExactSaturate", spec := "fnExactSaturate", apart := false }
def FnExactSaturateSaid : Prop := fnExactSaturateRow.holds Try.pinned (OpenSpec.ofChange fnExactSaturateSpec)

/-- ITS FALSE NEIGHBOUR: 'it returns false'. Refute it at one input. -/
def fnExactSaturateWrong : ChangeSpec := { name := "fnExactSaturate", fn := fun _ => fun
  | [d] => { results := [.lit (.bool false)], args := [d] }
  | _ => none }
def FnExactSaturateWrongFalsely : Prop := fnExactSaturateRow.holds Try.pinned (OpenSpec.ofChange fnExactSaturateWrong)

/-- 'laws.FnExactAddValues': WHATEVER THE INPUT: true; the input reads as it did. -/
def fnExactAddValuesSpec : ChangeSpec := { name := "fnExactAddValues", fn := fun _ => fun
  | [d1, d2] => { results := [.lit (.bool true)], args := [d1, d2] }
  | _ => none }
def fnExactAddValuesRow : OpenClaim := { program := "ytakdgpoiihjjlaa", sum := "f7bbc5df95e1e7ae2df6e611a710c5e7329dfcc09c1c630244fbbc254439ffbc", func := "loop.example/g00983/laws.FnExactAddValues", spec := "fnExactAddValues", apart := false }
def FnExactAddValuesSaid : Prop := fnExactAddValuesRow.holds Try.pinned (OpenSpec.ofChange fnExactAddValuesSpec)

/-- ITS FALSE NEIGHBOUR: 'it returns false'. Refute it at one input. -/
def fnExactAddValuesWrong : ChangeSpec := { name := "fnExactAddValues", fn := fun _ => fun
  | [d1, d2] => { results := [.lit (.bool false)], args := [d1, d2] }
  | _ => none }
def FnExactAddValuesWrongFalsely : Prop := fnExactAddValuesRow.holds Try.pinned (OpenSpec.ofChange fnExactAddValuesWrong)

/-- 'laws.FnExactMulValues': WHATEVER THE INPUT: true; the input reads as it did. -/
def fnExactMulValuesSpec : ChangeSpec := { name := "fnExactMulValues", fn := fun _ => fun
  | [d1, d2] => { results := [.lit (.bool true)], args := [d1, d2] }
  | _ => none }
def fnExactMulValuesRow : OpenClaim := { program := "ytakdgpoiihjjlaa", sum := "f7bbc5df95e1e7ae2df6e611a710c5e7329dfcc09c1c630244fbbc254439ffbc", func := "loop.example/g00983/laws.FnExactMulValues", spec := "fnExactMulValues", apart := false }
def FnExactMulValuesSaid : Prop := fnExactMulValuesRow.holds Try.pinned (OpenSpec.ofChange fnExactMulValuesSpec)

/-- ITS FALSE NEIGHBOUR: 'it returns false'. Refute it at one input. -/
def fnExactMulValuesWrong : ChangeSpec := { name := "fnExactMulValues", fn := fun _ => fun
  | [d1, d2] => { results := [.lit (.bool false)], args := [d1, d2] }
  | _ => none }
def FnExactMulValuesWrongFalsely : Prop := fnExactMulValuesRow.holds Try.pinned (OpenSpec.ofChange fnExactMulValuesWrong)

/-- 'laws.FnExactSubValues': WHATEVER THE INPUT: true; the input reads as it did. -/
def fnExactSubValuesSpec : ChangeSpec := { name := "fnExactSubValues", fn := fun _ => fun
  | [d1, d2] => { results := [.lit (.bool true)], args := [d1, d2] }
  | _ => none }
def fnExactSubValuesRow : OpenClaim := { program := "ytakdgpoiihjjlaa", sum := "f7bbc5df95e1e7ae2df6e611a710c5e7329dfcc09c1c630244fbbc254439ffbc", func := "loop.example/g00983/laws.FnExactSubValues", spec := "fnExactSubValues", apart := false }
def FnExactSubValuesSaid : Prop := fnExactSubValuesRow.holds Try.pinned (OpenSpec.ofChange fnExactSubValuesSpec)

/-- ITS FALSE NEIGHBOUR: 'it returns false'. Refute it at one input. -/
def fnExactSubValuesWrong : ChangeSpec := { name := "fnExactSubValues", fn := fun _ => fun
  | [d1, d2] => { results := [.lit (.bool false)], args := [d1, d2] }
  | _ => none }
def FnExactSubValuesWrongFalsely : Prop := fnExactSubValuesRow.holds Try.pinned (OpenSpec.ofChange fnExactSubValuesWrong)

/-- 'laws.FnExactUnpackControl': WHATEVER THE INPUT: true; the input reads as it did. -/
def fnExactUnpackControlSpec : ChangeSpec := { name := "fnExactUnpackControl", fn := fun _ => fun
  | [d] => { results := [.lit (.bool true)], args := [d] }
  | _ => none }
def fnExactUnpackControlRow : OpenClaim := { program := "ytakdgpoiihjjlaa", sum := "f7bbc5df95e1e7ae2df6e611a710c5e7329dfcc09c1c630244fbbc254439ffbc", func := "loop.example/g00983/laws.FnExactUnpackControl", spec := "fnExactUnpackControl", apart := false }
def FnExactUnpackControlSaid : Prop := fnExactUnpackControlRow.holds Try.pinned (OpenSpec.ofChange fnExactUnpackControlSpec)

/-- ITS FALSE NEIGHBOUR: 'it returns false'. Refute it at one input. -/
def fnExactUnpackControlWrong : ChangeSpec := { name := "fnExactUnpackControl", fn := fun _ => fun
  | [d] => { results := [.lit (.bool false)], args := [d] }
  | _ => none }
def FnExactUnpackControlWrongFalsely : Prop := fnExactUnpackControlRow.holds Try.pinned (OpenSpec.ofChange fnExactUnpackControlWrong)

/-- 'laws.FnSaturated': WHATEVER THE INPUT: true; the input reads as it did. -/
def fnSaturatedSpec : ChangeSpec := { name := "fnSaturated", fn := fun _ => fun
  | [d] => { results := [.lit (.bool true)], args := [d] }
  | _ => none }
def fnSaturatedRow : OpenClaim := { program := "ytakdgpoiihjjlaa", sum := "f7bbc5df95e1e7ae2df6e611a710c5e7329dfcc09c1c630244fbbc254439ffbc", func := "loop.example/g00983/laws.FnSaturated", spec := "fnSaturated", apart := false }
def FnSaturatedSaid : Prop := fnSaturatedRow.holds Try.pinned (OpenSpec.ofChange fnSaturatedSpec)

/-- ITS FALSE NEIGHBOUR: 'it returns false'. Refute it at one input. -/
def fnSaturatedWrong : ChangeSpec := { name := "fnSaturated", fn := fun _ => fun
  | [d] => { results := [.lit (.bool false)], args := [d] }
  | _ => none }
def FnSaturatedWrongFalsely : Prop := fnSaturatedRow.holds Try.pinned (OpenSpec.ofChange fnSaturatedWrong)

/-- 'laws.FnClamped': WHATEVER THE INPUT: true; the input reads as it did. -/
def fnClampedSpec : ChangeSpec := { name := "fnClamped", fn := fun _ => fun
  | [d] => { results := [.lit (.bool true)], args := [d] }
  | _ => none }
def fnClampedRow : OpenClaim := { program := "ytakdgpoiihjjlaa", sum := "f7bbc5df95e1e7ae2df6e611a710c5e7329dfcc09c1c630244fbbc254439ffbc", func := "loop.example/g00983/laws.FnClamped", spec := "fnClamped", apart := false }
def FnClampedSaid : Prop := fnClampedRow.holds Try.pinned (OpenSpec.ofChange fnClampedSpec)

/-- ITS FALSE NEIGHBOUR: 'it returns false'. Refute it at one input. -/
def fnClampedWrong : ChangeSpec := { name := "fnClamped", fn := fun _ => fun
  | [d] => { results := [.lit (.bool false)], args := [d] }
  | _ => none }
def FnClampedWrongFalsely : Prop := fnClampedRow.holds Try.pinned (OpenSpec.ofChange fnClampedWrong)

/-- 'laws.FnControlWords': WHATEVER THE INPUT: true; the input reads as it did. -/
def fnControlWordsSpec : ChangeSpec := { name := "fnControlWords", fn := fun _ => fun
  | [d] => { results := [.lit (.bool true)], args := [d] }
  | _ => none }
def fnControlWordsRow : OpenClaim := { program := "ytakdgpoiihjjlaa", sum := "f7bbc5df95e1e7ae2df6e611a710c5e7329dfcc09c1c630244fbbc254439ffbc", func := "loop.example/g00983/laws.FnControlWords", spec := "fnControlWords", apart := false }
def FnControlWordsSaid : Prop := fnControlWordsRow.holds Try.pinned (OpenSpec.ofChange fnControlWordsSpec)

/-- ITS FALSE NEIGHBOUR: 'it returns false'. Refute it at one input. -/
def fnControlWordsWrong : ChangeSpec := { name := "fnControlWords", fn := fun _ => fun
  | [d] => { results := [.lit (.bool false)], args := [d] }
  | _ => none }
def FnControlWordsWrongFalsely : Prop := fnControlWordsRow.holds Try.pinned (OpenSpec.ofChange fnControlWordsWrong)

/-- 'laws.FnArithmetic': WHATEVER THE INPUT: true; the input reads as it did. -/
def fnArithmeticSpec : ChangeSpec := { name := "fnArithmetic", fn := fun _ => fun
  | [d] => { results := [.lit (.bool true)], args := [d] }
  | _ => none }
def fnArithmeticRow : OpenClaim := { program := "ytakdgpoiihjjlaa", sum := "f7bbc5df95e1e7ae2df6e611a710c5e7329dfcc09c1c630244fbbc254439ffbc", func := "loop.example/g00983/laws.FnArithmetic", spec := "fnArithmetic", apart := false }
def FnArithmeticSaid : Prop := fnArithmeticRow.holds Try.pinned (OpenSpec.ofChange fnArithmeticSpec)

/-- ITS FALSE NEIGHBOUR: 'it returns false'. Refute it at one input. -/
def fnArithmeticWrong : ChangeSpec := { name := "fnArithmetic", fn := fun _ => fun
  | [d] => { results := [.lit (.bool false)], args := [d] }
  | _ => none }
def FnArithmeticWrongFalsely : Prop := fnArithmeticRow.holds Try.pinned (OpenSpec.ofChange fnArithmeticWrong)

/-- 'laws.FnExactStmtOk': WHATEVER THE INPUT: true; the input reads as it did. -/
def fnExactStmtOkSpec : ChangeSpec := { name := "fnExactStmtOk", fn := fun _ => fun
  | [d] => { results := [.lit (.bool true)], args := [d] }
  | _ => none }
def fnExactStmtOkRow : OpenClaim := { program := "ytakdgpoiihjjlaa", sum := "f7bbc5df95e1e7ae2df6e611a710c5e7329dfcc09c1c630244fbbc254439ffbc", func := "loop.example/g00983/laws.FnExactStmtOk", spec := "fnExactStmtOk", apart := false }
def FnExactStmtOkSaid : Prop := fnExactStmtOkRow.holds Try.pinned (OpenSpec.ofChange fnExactStmtOkSpec)

/-- ITS FALSE NEIGHBOUR: 'it returns false'. Refute it at one input. -/
def fnExactStmtOkWrong : ChangeSpec := { name := "fnExactStmtOk", fn := fun _ => fun
  | [d] => { results := [.lit (.bool false)], args := [d] }
  | _ => none }
def FnExactStmtOkWrongFalsely : Prop := fnExactStmtOkRow.holds Try.pinned (OpenSpec.ofChange fnExactStmtOkWrong)

/- THE SECOND FORM. 'bulk': how many values and letters a reading holds, each counted each time it is reached (what is shared counts as often as it is met; a slice's spare places count too). A statement '..UptoSaid' is the law's where the arguments, and the package variables that the reading takes, are together of bulk at most 1048576: NARROWER than '..Said'. Prove '..Said' where nothing that the law and all that it calls make is longer than what came in: it says more and counts as full. Else prove '..UptoSaid'. A law counts once. -/
mutual
def uptoBulk {H : Type} : DataW H → Nat
  | .lit (.string bytes) => bytes.length + 1
  | .lit _ => 1
  | .nil => 1
  | .ptr d => uptoBulk d + 1
  | .slice elems spare => uptoBulkAll elems + uptoBulkAll spare + 1
  | .agg parts => uptoBulkAll parts + 1
  | .iface _ d => uptoBulk d + 1
  | .map entries => uptoBulkEntries entries + 1
  | .held _ => 1
def uptoBulkAll {H : Type} : List (DataW H) → Nat
  | [] => 0
  | d :: r => uptoBulk d + uptoBulkAll r
def uptoBulkEntries {H : Type} : List (Lit × DataW H) → Nat
  | [] => 0
  | x :: r => uptoBulkEntry x + uptoBulkEntries r
def uptoBulkEntry {H : Type} : Lit × DataW H → Nat
  | (.string bytes, d) => bytes.length + uptoBulk d + 1
  | (_, d) => uptoBulk d + 1
 end
def uptoSmall : (H : Type) → List (DataW H) → Bool := fun _ ds => decide (uptoBulkAll ds ≤ 1048576)
def OpenSpec.upto (s : _root_.Go.ChangeSpec) : _root_.Go.OpenSpec := { _root_.Go.OpenSpec.ofChange s with cond := some uptoSmall }

/-- 'laws.FnExactConstants', WHERE WHAT IT READS IS OF BULK AT MOST 1048576: true; the input reads as it did. -/
def fnExactConstantsUptoRow : OpenClaim := { program := "ytakdgpoiihjjlaa", sum := "f7bbc5df95e1e7ae2df6e611a710c5e7329dfcc09c1c630244fbbc254439ffbc", func := "loop.example/g00983/laws.FnExactConstants", spec := "fnExactConstants", apart := false, narrowed := true }
def FnExactConstantsUptoSaid : Prop := fnExactConstantsUptoRow.holds Try.pinned (OpenSpec.upto fnExactConstantsSpec)

/-- 'laws.FnExactIsValue', WHERE WHAT IT READS IS OF BULK AT MOST 1048576: true; the input reads as it did. -/
def fnExactIsValueUptoRow : OpenClaim := { program := "ytakdgpoiihjjlaa", sum := "f7bbc5df95e1e7ae2df6e611a710c5e7329dfcc09c1c630244fbbc254439ffbc", func := "loop.example/g00983/laws.FnExactIsValue", spec := "fnExactIsValue", apart := false, narrowed := true }
def FnExactIsValueUptoSaid : Prop := fnExactIsValueUptoRow.holds Try.pinned (OpenSpec.upto fnExactIsValueSpec)

/-- 'laws.FnExactOperandOk', WHERE WHAT IT READS IS OF BULK AT MOST 1048576: true; the input reads as it did. -/
def fnExactOperandOkUptoRow : OpenClaim := { program := "ytakdgpoiihjjlaa", sum := "f7bbc5df95e1e7ae2df6e611a710c5e7329dfcc09c1c630244fbbc254439ffbc", func := "loop.example/g00983/laws.FnExactOperandOk", spec := "fnExactOperandOk", apart := false, narrowed := true }
def FnExactOperandOkUptoSaid : Prop := fnExactOperandOkUptoRow.holds Try.pinned (OpenSpec.upto fnExactOperandOkSpec)

/-- 'laws.FnExactPackControl', WHERE WHAT IT READS IS OF BULK AT MOST 1048576: true; the input reads as it did. -/
def fnExactPackControlUptoRow : OpenClaim := { program := "ytakdgpoiihjjlaa", sum := "f7bbc5df95e1e7ae2df6e611a710c5e7329dfcc09c1c630244fbbc254439ffbc", func := "loop.example/g00983/laws.FnExactPackControl", spec := "fnExactPackControl", apart := false, narrowed := true }
def FnExactPackControlUptoSaid : Prop := fnExactPackControlUptoRow.holds Try.pinned (OpenSpec.upto fnExactPackControlSpec)

/-- 'laws.FnExactClamp', WHERE WHAT IT READS IS OF BULK AT MOST 1048576: true; the input reads as it did. -/
def fnExactClampUptoRow : OpenClaim := { program := "ytakdgpoiihjjlaa", sum := "f7bbc5df95e1e7ae2df6e611a710c5e7329dfcc09c1c630244fbbc254439ffbc", func := "loop.example/g00983/laws.FnExactClamp", spec := "fnExactClamp", apart := false, narrowed := true }
def FnExactClampUptoSaid : Prop := fnExactClampUptoRow.holds Try.pinned (OpenSpec.upto fnExactClampSpec)

/-- 'laws.FnExactExprOk', WHERE WHAT IT READS IS OF BULK AT MOST 1048576: true; the input reads as it did. -/
def fnExactExprOkUptoRow : OpenClaim := { program := "ytakdgpoiihjjlaa", sum := "f7bbc5df95e1e7ae2df6e611a710c5e7329dfcc09c1c630244fbbc254439ffbc", func := "loop.example/g00983/laws.FnExactExprOk", spec := "fnExactExprOk", apart := false, narrowed := true }
def FnExactExprOkUptoSaid : Prop := fnExactExprOkUptoRow.holds Try.pinned (OpenSpec.upto fnExactExprOkSpec)

/-- 'laws.FnExactSaturate', WHERE WHAT IT READS IS OF BULK AT MOST 1048576: true; the input reads as it did. -/
def fnExactSaturateUptoRow : OpenClaim := { program := "ytakdgpoiihjjlaa", sum := "f7bbc5df95e1e7ae2df6e611a710c5e7329dfcc09c1c630244fbbc254439ffbc", func := "loop.example/g00983/laws.FnExactSaturate", spec := "fnExactSaturate", apart := false, narrowed := true }
def FnExactSaturateUptoSaid : Prop := fnExactSaturateUptoRow.holds Try.pinned (OpenSpec.upto fnExactSaturateSpec)

/-- 'laws.FnExactAddValues', WHERE WHAT IT READS IS OF BULK AT MOST 1048576: true; the input reads as it did. -/
def fnExactAddValuesUptoRow : OpenClaim := { program := "ytakdgpoiihjjlaa", sum := "f7bbc5df95e1e7ae2df6e611a710c5e7329dfcc09c1c630244fbbc254439ffbc", func := "loop.example/g00983/laws.FnExactAddValues", spec := "fnExactAddValues", apart := false, narrowed := true }
def FnExactAddValuesUptoSaid : Prop := fnExactAddValuesUptoRow.holds Try.pinned (OpenSpec.upto fnExactAddValuesSpec)

/-- 'laws.FnExactMulValues', WHERE WHAT IT READS IS OF BULK AT MOST 1048576: true; the input reads as it did. -/
def fnExactMulValuesUptoRow : OpenClaim := { program := "ytakdgpoiihjjlaa", sum := "f7bbc5df95e1e7ae2df6e611a710c5e7329dfcc09c1c630244fbbc254439ffbc", func := "loop.example/g00983/laws.FnExactMulValues", spec := "fnExactMulValues", apart := false, narrowed := true }
def FnExactMulValuesUptoSaid : Prop := fnExactMulValuesUptoRow.holds Try.pinned (OpenSpec.upto fnExactMulValuesSpec)

/-- 'laws.FnExactSubValues', WHERE WHAT IT READS IS OF BULK AT MOST 1048576: true; the input reads as it did. -/
def fnExactSubValuesUptoRow : OpenClaim := { program := "ytakdgpoiihjjlaa", sum := "f7bbc5df95e1e7ae2df6e611a710c5e7329dfcc09c1c630244fbbc254439ffbc", func := "loop.example/g00983/laws.FnExactSubValues", spec := "fnExactSubValues", apart := false, narrowed := true }
def FnExactSubValuesUptoSaid : Prop := fnExactSubValuesUptoRow.holds Try.pinned (OpenSpec.upto fnExactSubValuesSpec)

/-- 'laws.FnExactUnpackControl', WHERE WHAT IT READS IS OF BULK AT MOST 1048576: true; the input reads as it did. -/
def fnExactUnpackControlUptoRow : OpenClaim := { program := "ytakdgpoiihjjlaa", sum := "f7bbc5df95e1e7ae2df6e611a710c5e7329dfcc09c1c630244fbbc254439ffbc", func := "loop.example/g00983/laws.FnExactUnpackControl", spec := "fnExactUnpackControl", apart := false, narrowed := true }
def FnExactUnpackControlUptoSaid : Prop := fnExactUnpackControlUptoRow.holds Try.pinned (OpenSpec.upto fnExactUnpackControlSpec)

/-- 'laws.FnSaturated', WHERE WHAT IT READS IS OF BULK AT MOST 1048576: true; the input reads as it did. -/
def fnSaturatedUptoRow : OpenClaim := { program := "ytakdgpoiihjjlaa", sum := "f7bbc5df95e1e7ae2df6e611a710c5e7329dfcc09c1c630244fbbc254439ffbc", func := "loop.example/g00983/laws.FnSaturated", spec := "fnSaturated", apart := false, narrowed := true }
def FnSaturatedUptoSaid : Prop := fnSaturatedUptoRow.holds Try.pinned (OpenSpec.upto fnSaturatedSpec)

/-- 'laws.FnClamped', WHERE WHAT IT READS IS OF BULK AT MOST 1048576: true; the input reads as it did. -/
def fnClampedUptoRow : OpenClaim := { program := "ytakdgpoiihjjlaa", sum := "f7bbc5df95e1e7ae2df6e611a710c5e7329dfcc09c1c630244fbbc254439ffbc", func := "loop.example/g00983/laws.FnClamped", spec := "fnClamped", apart := false, narrowed := true }
def FnClampedUptoSaid : Prop := fnClampedUptoRow.holds Try.pinned (OpenSpec.upto fnClampedSpec)

/-- 'laws.FnControlWords', WHERE WHAT IT READS IS OF BULK AT MOST 1048576: true; the input reads as it did. -/
def fnControlWordsUptoRow : OpenClaim := { program := "ytakdgpoiihjjlaa", sum := "f7bbc5df95e1e7ae2df6e611a710c5e7329dfcc09c1c630244fbbc254439ffbc", func := "loop.example/g00983/laws.FnControlWords", spec := "fnControlWords", apart := false, narrowed := true }
def FnControlWordsUptoSaid : Prop := fnControlWordsUptoRow.holds Try.pinned (OpenSpec.upto fnControlWordsSpec)

/-- 'laws.FnArithmetic', WHERE WHAT IT READS IS OF BULK AT MOST 1048576: true; the input reads as it did. -/
def fnArithmeticUptoRow : OpenClaim := { program := "ytakdgpoiihjjlaa", sum := "f7bbc5df95e1e7ae2df6e611a710c5e7329dfcc09c1c630244fbbc254439ffbc", func := "loop.example/g00983/laws.FnArithmetic", spec := "fnArithmetic", apart := false, narrowed := true }
def FnArithmeticUptoSaid : Prop := fnArithmeticUptoRow.holds Try.pinned (OpenSpec.upto fnArithmeticSpec)

/-- 'laws.FnExactStmtOk', WHERE WHAT IT READS IS OF BULK AT MOST 1048576: true; the input reads as it did. -/
def fnExactStmtOkUptoRow : OpenClaim := { program := "ytakdgpoiihjjlaa", sum := "f7bbc5df95e1e7ae2df6e611a710c5e7329dfcc09c1c630244fbbc254439ffbc", func := "loop.example/g00983/laws.FnExactStmtOk", spec := "fnExactStmtOk", apart := false, narrowed := true }
def FnExactStmtOkUptoSaid : Prop := fnExactStmtOkUptoRow.holds Try.pinned (OpenSpec.upto fnExactStmtOkSpec)

end Rows
end Go.Proofs.Ytakdgpoiihjjlaa
