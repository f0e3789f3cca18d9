/-
  No cell of these rows narrows 'for every input' (looked for: loops, veiled, ifaces, maps, wideKeys, modest, calm, conditions, laid).
  DERIVED. THE GIVEN ROWS OF THIS SEAT. 9 by the template 'for every input the law returns true; each argument reads behind the call as it read before'; 0 by the template 'total and deterministic' (their statements: YtkjdhmffknahgaaTotals.lean).
  GIVEN WITH THE SEED: the statements are not yours to turn. If you find one false, say at which input.
  Laid BY PROGRAM, IN A SANDBOX (cutbox-rows.mjs): the forced cells as the released guide's own fill.sh prints them over the translation 14849fc821fa02c3… (all of the seat's roots in one cut). By AI agents, Wed Nov 11 2026. No macro, syntax, notation, axiom, sorry.
-/
import Derived.Test.YtkjdhmffknahgaaChecked
import GoSem.Claim
import GoSem.ClaimJoined
import GoSem.ClaimMapViews
import Derived.JoinedTies
import Derived.KernelRfl
namespace Go.Proofs.Ytkjdhmffknahgaa
/- THE CELL 'sum', in the pinned program and in every row, IS THE sha256 OF THE DUMP (.gsa) THAT YtkjdhmffknahgaaProg.lean LOADS. Nothing in Lean hashes anything: it is a label: what it is worth is what the hold of that sum in a sandbox is worth. -/
noncomputable def Try.pinned : Pinned := { name := "ytkjdhmffknahgaa", sum := "14849fc821fa02c308b17d79b6fc7626d8468c4b6511fe0db03b5218d08ed075", checked := Try.checked }
namespace Rows
def none {H : Type} : Left H := { results := [], args := [] }

/-- 'laws.FnBlocks': WHATEVER THE INPUT: true; the input reads as it did. -/
def fnBlocksSpec : ChangeSpec := { name := "fnBlocks", fn := fun _ => fun
  | [d] => { results := [.lit (.bool true)], args := [d] }
  | _ => none }
def fnBlocksRow : OpenClaim := { program := "ytkjdhmffknahgaa", sum := "14849fc821fa02c308b17d79b6fc7626d8468c4b6511fe0db03b5218d08ed075", func := "loop.example/g00983/laws.FnBlocks", spec := "fnBlocks", recurses := true, apart := false }
def FnBlocksSaid : Prop := fnBlocksRow.holds Try.pinned (OpenSpec.ofChange fnBlocksSpec)

/-- ITS FALSE NEIGHBOUR: 'it returns false'. Refute it at one input. -/
def fnBlocksWrong : ChangeSpec := { name := "fnBlocks", fn := fun _ => fun
  | [d] => { results := [.lit (.bool false)], args := [d] }
  | _ => none }
def FnBlocksWrongFalsely : Prop := fnBlocksRow.holds Try.pinned (OpenSpec.ofChange fnBlocksWrong)

/-- 'laws.FnExactBlockOk': WHATEVER THE INPUT: true; the input reads as it did. -/
def fnExactBlockOkSpec : ChangeSpec := { name := "fnExactBlockOk", fn := fun _ => fun
  | [d] => { results := [.lit (.bool true)], args := [d] }
  | _ => none }
def fnExactBlockOkRow : OpenClaim := { program := "ytkjdhmffknahgaa", sum := "14849fc821fa02c308b17d79b6fc7626d8468c4b6511fe0db03b5218d08ed075", func := "loop.example/g00983/laws.FnExactBlockOk", spec := "fnExactBlockOk", apart := false }
def FnExactBlockOkSaid : Prop := fnExactBlockOkRow.holds Try.pinned (OpenSpec.ofChange fnExactBlockOkSpec)

/-- ITS FALSE NEIGHBOUR: 'it returns false'. Refute it at one input. -/
def fnExactBlockOkWrong : ChangeSpec := { name := "fnExactBlockOk", fn := fun _ => fun
  | [d] => { results := [.lit (.bool false)], args := [d] }
  | _ => none }
def FnExactBlockOkWrongFalsely : Prop := fnExactBlockOkRow.holds Try.pinned (OpenSpec.ofChange fnExactBlockOkWrong)

/-- 'laws.FnExactDepthOf': WHATEVER THE INPUT: true; the input reads as it did. -/
def fnExactDepthOfSpec : ChangeSpec := { name := "fnExactDepthOf", fn := fun _ => fun
  | [d1, d2] => { results := [.lit (.bool true)], args := [d1, d2] }
  | _ => none }
def fnExactDepthOfRow : OpenClaim := { program := "ytkjdhmffknahgaa", sum := "14849fc821fa02c308b17d79b6fc7626d8468c4b6511fe0db03b5218d08ed075", func := "loop.example/g00983/laws.FnExactDepthOf", spec := "fnExactDepthOf", apart := false }
def FnExactDepthOfSaid : Prop := fnExactDepthOfRow.holds Try.pinned (OpenSpec.ofChange fnExactDepthOfSpec)

/-- ITS FALSE NEIGHBOUR: 'it returns false'. Refute it at one input. -/
def fnExactDepthOfWrong : ChangeSpec := { name := "fnExactDepthOf", fn := fun _ => fun
  | [d1, d2] => { results := [.lit (.bool false)], args := [d1, d2] }
  | _ => none }
def FnExactDepthOfWrongFalsely : Prop := fnExactDepthOfRow.holds Try.pinned (OpenSpec.ofChange fnExactDepthOfWrong)

/-- 'laws.FnExactEndOf': WHATEVER THE INPUT: true; the input reads as it did. -/
def fnExactEndOfSpec : ChangeSpec := { name := "fnExactEndOf", fn := fun _ => fun
  | [d1, d2] => { results := [.lit (.bool true)], args := [d1, d2] }
  | _ => none }
def fnExactEndOfRow : OpenClaim := { program := "ytkjdhmffknahgaa", sum := "14849fc821fa02c308b17d79b6fc7626d8468c4b6511fe0db03b5218d08ed075", func := "loop.example/g00983/laws.FnExactEndOf", spec := "fnExactEndOf", apart := false }
def FnExactEndOfSaid : Prop := fnExactEndOfRow.holds Try.pinned (OpenSpec.ofChange fnExactEndOfSpec)

/-- ITS FALSE NEIGHBOUR: 'it returns false'. Refute it at one input. -/
def fnExactEndOfWrong : ChangeSpec := { name := "fnExactEndOf", fn := fun _ => fun
  | [d1, d2] => { results := [.lit (.bool false)], args := [d1, d2] }
  | _ => none }
def FnExactEndOfWrongFalsely : Prop := fnExactEndOfRow.holds Try.pinned (OpenSpec.ofChange fnExactEndOfWrong)

/-- 'laws.FnExactLongestRun': WHATEVER THE INPUT: true; the input reads as it did. -/
def fnExactLongestRunSpec : ChangeSpec := { name := "fnExactLongestRun", fn := fun _ => fun
  | [d] => { results := [.lit (.bool true)], args := [d] }
  | _ => none }
def fnExactLongestRunRow : OpenClaim := { program := "ytkjdhmffknahgaa", sum := "14849fc821fa02c308b17d79b6fc7626d8468c4b6511fe0db03b5218d08ed075", func := "loop.example/g00983/laws.FnExactLongestRun", spec := "fnExactLongestRun", unfollowed := true, recurses := true, apart := false }
def FnExactLongestRunSaid : Prop := fnExactLongestRunRow.holds Try.pinned (OpenSpec.ofChange fnExactLongestRunSpec)

/-- ITS FALSE NEIGHBOUR: 'it returns false'. Refute it at one input. -/
def fnExactLongestRunWrong : ChangeSpec := { name := "fnExactLongestRun", fn := fun _ => fun
  | [d] => { results := [.lit (.bool false)], args := [d] }
  | _ => none }
def FnExactLongestRunWrongFalsely : Prop := fnExactLongestRunRow.holds Try.pinned (OpenSpec.ofChange fnExactLongestRunWrong)

/-- 'laws.FnExactProgramOk': WHATEVER THE INPUT: true; the input reads as it did. -/
def fnExactProgramOkSpec : ChangeSpec := { name := "fnExactProgramOk", fn := fun _ => fun
  | [d] => { results := [.lit (.bool true)], args := [d] }
  | _ => none }
def fnExactProgramOkRow : OpenClaim := { program := "ytkjdhmffknahgaa", sum := "14849fc821fa02c308b17d79b6fc7626d8468c4b6511fe0db03b5218d08ed075", func := "loop.example/g00983/laws.FnExactProgramOk", spec := "fnExactProgramOk", unfollowed := true, recurses := true, apart := false }
def FnExactProgramOkSaid : Prop := fnExactProgramOkRow.holds Try.pinned (OpenSpec.ofChange fnExactProgramOkSpec)

/-- ITS FALSE NEIGHBOUR: 'it returns false'. Refute it at one input. -/
def fnExactProgramOkWrong : ChangeSpec := { name := "fnExactProgramOk", fn := fun _ => fun
  | [d] => { results := [.lit (.bool false)], args := [d] }
  | _ => none }
def FnExactProgramOkWrongFalsely : Prop := fnExactProgramOkRow.holds Try.pinned (OpenSpec.ofChange fnExactProgramOkWrong)

/-- 'laws.FnExactMemOk': WHATEVER THE INPUT: true; the input reads as it did. -/
def fnExactMemOkSpec : ChangeSpec := { name := "fnExactMemOk", fn := fun _ => fun
  | [d1, d2] => { results := [.lit (.bool true)], args := [d1, d2] }
  | _ => none }
def fnExactMemOkRow : OpenClaim := { program := "ytkjdhmffknahgaa", sum := "14849fc821fa02c308b17d79b6fc7626d8468c4b6511fe0db03b5218d08ed075", func := "loop.example/g00983/laws.FnExactMemOk", spec := "fnExactMemOk", unfollowed := true, recurses := true, apart := false }
def FnExactMemOkSaid : Prop := fnExactMemOkRow.holds Try.pinned (OpenSpec.ofChange fnExactMemOkSpec)

/-- ITS FALSE NEIGHBOUR: 'it returns false'. Refute it at one input. -/
def fnExactMemOkWrong : ChangeSpec := { name := "fnExactMemOk", fn := fun _ => fun
  | [d1, d2] => { results := [.lit (.bool false)], args := [d1, d2] }
  | _ => none }
def FnExactMemOkWrongFalsely : Prop := fnExactMemOkRow.holds Try.pinned (OpenSpec.ofChange fnExactMemOkWrong)

/-- 'laws.FnExactNextTask': WHATEVER THE INPUT: true; the input reads as it did. -/
def fnExactNextTaskSpec : ChangeSpec := { name := "fnExactNextTask", fn := fun _ => fun
  | [d1, d2, d3] => { results := [.lit (.bool true)], args := [d1, d2, d3] }
  | _ => none }
def fnExactNextTaskRow : OpenClaim := { program := "ytkjdhmffknahgaa", sum := "14849fc821fa02c308b17d79b6fc7626d8468c4b6511fe0db03b5218d08ed075", func := "loop.example/g00983/laws.FnExactNextTask", spec := "fnExactNextTask", unfollowed := true, recurses := true, apart := false }
def FnExactNextTaskSaid : Prop := fnExactNextTaskRow.holds Try.pinned (OpenSpec.ofChange fnExactNextTaskSpec)

/-- ITS FALSE NEIGHBOUR: 'it returns false'. Refute it at one input. -/
def fnExactNextTaskWrong : ChangeSpec := { name := "fnExactNextTask", fn := fun _ => fun
  | [d1, d2, d3] => { results := [.lit (.bool false)], args := [d1, d2, d3] }
  | _ => none }
def FnExactNextTaskWrongFalsely : Prop := fnExactNextTaskRow.holds Try.pinned (OpenSpec.ofChange fnExactNextTaskWrong)

/-- 'laws.FnNextTasks': WHATEVER THE INPUT: true; the input reads as it did. -/
def fnNextTasksSpec : ChangeSpec := { name := "fnNextTasks", fn := fun _ => fun
  | [d] => { results := [.lit (.bool true)], args := [d] }
  | _ => none }
def fnNextTasksRow : OpenClaim := { program := "ytkjdhmffknahgaa", sum := "14849fc821fa02c308b17d79b6fc7626d8468c4b6511fe0db03b5218d08ed075", func := "loop.example/g00983/laws.FnNextTasks", spec := "fnNextTasks", unfollowed := true, recurses := true, apart := false }
def FnNextTasksSaid : Prop := fnNextTasksRow.holds Try.pinned (OpenSpec.ofChange fnNextTasksSpec)

/-- ITS FALSE NEIGHBOUR: 'it returns false'. Refute it at one input. -/
def fnNextTasksWrong : ChangeSpec := { name := "fnNextTasks", fn := fun _ => fun
  | [d] => { results := [.lit (.bool false)], args := [d] }
  | _ => none }
def FnNextTasksWrongFalsely : Prop := fnNextTasksRow.holds Try.pinned (OpenSpec.ofChange fnNextTasksWrong)

/- THE SECOND FORM. 'bulk': how many values and letters a reading holds, each counted each time it is reached (what is shared counts as often as it is met; a slice's spare places count too). A statement '..UptoSaid' is the law's where the arguments, and the package variables that the reading takes, are together of bulk at most 1048576: NARROWER than '..Said'. Prove '..Said' where nothing that the law and all that it calls make is longer than what came in: it says more and counts as full. Else prove '..UptoSaid'. A law counts once. -/
mutual
def uptoBulk {H : Type} : DataW H → Nat
  | .lit (.string bytes) => bytes.length + 1
  | .lit _ => 1
  | .nil => 1
  | .ptr d => uptoBulk d + 1
  | .slice elems spare => uptoBulkAll elems + uptoBulkAll spare + 1
  | .agg parts => uptoBulkAll parts + 1
  | .iface _ d => uptoBulk d + 1
  | .map entries => uptoBulkEntries entries + 1
  | .held _ => 1
def uptoBulkAll {H : Type} : List (DataW H) → Nat
  | [] => 0
  | d :: r => uptoBulk d + uptoBulkAll r
def uptoBulkEntries {H : Type} : List (Lit × DataW H) → Nat
  | [] => 0
  | x :: r => uptoBulkEntry x + uptoBulkEntries r
def uptoBulkEntry {H : Type} : Lit × DataW H → Nat
  | (.string bytes, d) => bytes.length + uptoBulk d + 1
  | (_, d) => uptoBulk d + 1
 end
def uptoSmall : (H : Type) → List (DataW H) → Bool := fun _ ds => decide (uptoBulkAll ds ≤ 1048576)
def OpenSpec.upto (s : _root_.Go.ChangeSpec) : _root_.Go.OpenSpec := { _root_.Go.OpenSpec.ofChange s with cond := some uptoSmall }

/-- 'laws.FnBlocks', WHERE WHAT IT READS IS OF BULK AT MOST 1048576: true; the input reads as it did. -/
def fnBlocksUptoRow : OpenClaim := { program := "ytkjdhmffknahgaa", sum := "14849fc821fa02c308b17d79b6fc7626d8468c4b6511fe0db03b5218d08ed075", func := "loop.example/g00983/laws.FnBlocks", spec := "fnBlocks", recurses := true, apart := false, narrowed := true }
def FnBlocksUptoSaid : Prop := fnBlocksUptoRow.holds Try.pinned (OpenSpec.upto fnBlocksSpec)

/-- 'laws.FnExactBlockOk', WHERE WHAT IT READS IS OF BULK AT MOST 1048576: true; the input reads as it did. -/
def fnExactBlockOkUptoRow : OpenClaim := { program := "ytkjdhmffknahgaa", sum := "14849fc821fa02c308b17d79b6fc7626d8468c4b6511fe0db03b5218d08ed075", func := "loop.example/g00983/laws.FnExactBlockOk", spec := "fnExactBlockOk", apart := false, narrowed := true }
def FnExactBlockOkUptoSaid : Prop := fnExactBlockOkUptoRow.holds Try.pinned (OpenSpec.upto fnExactBlockOkSpec)

/-- 'laws.FnExactDepthOf', WHERE WHAT IT READS IS OF BULK AT MOST 1048576: true; the input reads as it did. -/
def fnExactDepthOfUptoRow : OpenClaim := { program := "ytkjdhmffknahgaa", sum := "14849fc821fa02c308b17d79b6fc7626d8468c4b6511fe0db03b5218d08ed075", func := "loop.example/g00983/laws.FnExactDepthOf", spec := "fnExactDepthOf", apart := false, narrowed := true }
def FnExactDepthOfUptoSaid : Prop := fnExactDepthOfUptoRow.holds Try.pinned (OpenSpec.upto fnExactDepthOfSpec)

/-- 'laws.FnExactEndOf', WHERE WHAT IT READS IS OF BULK AT MOST 1048576: true; the input reads as it did. -/
def fnExactEndOfUptoRow : OpenClaim := { program := "ytkjdhmffknahgaa", sum := "14849fc821fa02c308b17d79b6fc7626d8468c4b6511fe0db03b5218d08ed075", func := "loop.example/g00983/laws.FnExactEndOf", spec := "fnExactEndOf", apart := false, narrowed := true }
def FnExactEndOfUptoSaid : Prop := fnExactEndOfUptoRow.holds Try.pinned (OpenSpec.upto fnExactEndOfSpec)

/-- 'laws.FnExactLongestRun', WHERE WHAT IT READS IS OF BULK AT MOST 1048576: true; the input reads as it did. -/
def fnExactLongestRunUptoRow : OpenClaim := { program := "ytkjdhmffknahgaa", sum := "14849fc821fa02c308b17d79b6fc7626d8468c4b6511fe0db03b5218d08ed075", func := "loop.example/g00983/laws.FnExactLongestRun", spec := "fnExactLongestRun", unfollowed := true, recurses := true, apart := false, narrowed := true }
def FnExactLongestRunUptoSaid : Prop := fnExactLongestRunUptoRow.holds Try.pinned (OpenSpec.upto fnExactLongestRunSpec)

/-- 'laws.FnExactProgramOk', WHERE WHAT IT READS IS OF BULK AT MOST 1048576: true; the input reads as it did. -/
def fnExactProgramOkUptoRow : OpenClaim := { program := "ytkjdhmffknahgaa", sum := "14849fc821fa02c308b17d79b6fc7626d8468c4b6511fe0db03b5218d08ed075", func := "loop.example/g00983/laws.FnExactProgramOk", spec := "fnExactProgramOk", unfollowed := true, recurses := true, apart := false, narrowed := true }
def FnExactProgramOkUptoSaid : Prop := fnExactProgramOkUptoRow.holds Try.pinned (OpenSpec.upto fnExactProgramOkSpec)

/-- 'laws.FnExactMemOk', WHERE WHAT IT READS IS OF BULK AT MOST 1048576: true; the input reads as it did. -/
def fnExactMemOkUptoRow : OpenClaim := { program := "ytkjdhmffknahgaa", sum := "14849fc821fa02c308b17d79b6fc7626d8468c4b6511fe0db03b5218d08ed075", func := "loop.example/g00983/laws.FnExactMemOk", spec := "fnExactMemOk", unfollowed := true, recurses := true, apart := false, narrowed := true }
def FnExactMemOkUptoSaid : Prop := fnExactMemOkUptoRow.holds Try.pinned (OpenSpec.upto fnExactMemOkSpec)

/-- 'laws.FnExactNextTask', WHERE WHAT IT READS IS OF BULK AT MOST 1048576: true; the input reads as it did. -/
def fnExactNextTaskUptoRow : OpenClaim := { program := "ytkjdhmffknahgaa", sum := "14849fc821fa02c308b17d79b6fc7626d8468c4b6511fe0db03b5218d08ed075", func := "loop.example/g00983/laws.FnExactNextTask", spec := "fnExactNextTask", unfollowed := true, recurses := true, apart := false, narrowed := true }
def FnExactNextTaskUptoSaid : Prop := fnExactNextTaskUptoRow.holds Try.pinned (OpenSpec.upto fnExactNextTaskSpec)

/-- 'laws.FnNextTasks', WHERE WHAT IT READS IS OF BULK AT MOST 1048576: true; the input reads as it did. -/
def fnNextTasksUptoRow : OpenClaim := { program := "ytkjdhmffknahgaa", sum := "14849fc821fa02c308b17d79b6fc7626d8468c4b6511fe0db03b5218d08ed075", func := "loop.example/g00983/laws.FnNextTasks", spec := "fnNextTasks", unfollowed := true, recurses := true, apart := false, narrowed := true }
def FnNextTasksUptoSaid : Prop := fnNextTasksUptoRow.holds Try.pinned (OpenSpec.upto fnNextTasksSpec)

end Rows
end Go.Proofs.Ytkjdhmffknahgaa
