/-
  No cell of these rows narrows 'for every input' (looked for: loops, veiled, ifaces, maps, wideKeys, modest, calm, conditions, laid).
  DERIVED. THE GIVEN ROWS OF THIS SEAT. 9 by the template 'for every input the law returns true; each argument reads behind the call as it read before'; 0 by the template 'total and deterministic' (their statements: YtlhcofkandeepaaTotals.lean).
  GIVEN WITH THE SEED: the statements are not yours to turn. If you find one false, say at which input.
  Laid BY PROGRAM, IN A SANDBOX (cutbox-rows.mjs): the forced cells as the released guide's own fill.sh prints them over the translation 8dca86d706213e1f… (all of the seat's roots in one cut). By AI agents, Wed Nov 11 2026. No macro, syntax, notation, axiom, sorry.
-/
import Derived.Test.YtlhcofkandeepaaChecked
import GoSem.Claim
import GoSem.ClaimJoined
import GoSem.ClaimMapViews
import Derived.JoinedTies
import Derived.KernelRfl
namespace Go.Proofs.Ytlhcofkandeepaa
/- THE CELL 'sum', in the pinned program and in every row, IS THE sha256 OF THE DUMP (.gsa) THAT YtlhcofkandeepaaProg.lean LOADS. Nothing in Lean hashes anything: it is a label: what it is worth is what the hold of that sum in a sandbox is worth. -/
noncomputable def Try.pinned : Pinned := { name := "ytlhcofkandeepaa", sum := "8dca86d706213e1fa766238fbac460551c7a28f077fd88a935121d97ad68ff18", checked := Try.checked }
namespace Rows
def none {H : Type} : Left H := { results := [], args := [] }

/-- 'laws.FnExactMayWrite': WHATEVER THE INPUT: true; the input reads as it did. -/
def fnExactMayWriteSpec : ChangeSpec := { name := "fnExactMayWrite", fn := fun _ => fun
  | [d] => { results := [.lit (.bool true)], args := [d] }
  | _ => none }
def fnExactMayWriteRow : OpenClaim := { program := "ytlhcofkandeepaa", sum := "8dca86d706213e1fa766238fbac460551c7a28f077fd88a935121d97ad68ff18", func := "loop.example/g00983/laws.FnExactMayWrite", spec := "fnExactMayWrite", unfollowed := true, recurses := true, apart := false }
def FnExactMayWriteSaid : Prop := fnExactMayWriteRow.holds Try.pinned (OpenSpec.ofChange fnExactMayWriteSpec)

/-- ITS FALSE NEIGHBOUR: 'it returns false'. Refute it at one input. -/
def fnExactMayWriteWrong : ChangeSpec := { name := "fnExactMayWrite", fn := fun _ => fun
  | [d] => { results := [.lit (.bool false)], args := [d] }
  | _ => none }
def FnExactMayWriteWrongFalsely : Prop := fnExactMayWriteRow.holds Try.pinned (OpenSpec.ofChange fnExactMayWriteWrong)

/-- 'laws.FnExactMustWrite': WHATEVER THE INPUT: true; the input reads as it did. -/
def fnExactMustWriteSpec : ChangeSpec := { name := "fnExactMustWrite", fn := fun _ => fun
  | [d] => { results := [.lit (.bool true)], args := [d] }
  | _ => none }
def fnExactMustWriteRow : OpenClaim := { program := "ytlhcofkandeepaa", sum := "8dca86d706213e1fa766238fbac460551c7a28f077fd88a935121d97ad68ff18", func := "loop.example/g00983/laws.FnExactMustWrite", spec := "fnExactMustWrite", unfollowed := true, recurses := true, apart := false }
def FnExactMustWriteSaid : Prop := fnExactMustWriteRow.holds Try.pinned (OpenSpec.ofChange fnExactMustWriteSpec)

/-- ITS FALSE NEIGHBOUR: 'it returns false'. Refute it at one input. -/
def fnExactMustWriteWrong : ChangeSpec := { name := "fnExactMustWrite", fn := fun _ => fun
  | [d] => { results := [.lit (.bool false)], args := [d] }
  | _ => none }
def FnExactMustWriteWrongFalsely : Prop := fnExactMustWriteRow.holds Try.pinned (OpenSpec.ofChange fnExactMustWriteWrong)

/-- 'laws.FnMustWrite': WHATEVER THE INPUT: true; the input reads as it did. -/
def fnMustWriteSpec : ChangeSpec := { name := "fnMustWrite", fn := fun _ => fun
  | [d] => { results := [.lit (.bool true)], args := [d] }
  | _ => none }
def fnMustWriteRow : OpenClaim := { program := "ytlhcofkandeepaa", sum := "8dca86d706213e1fa766238fbac460551c7a28f077fd88a935121d97ad68ff18", func := "loop.example/g00983/laws.FnMustWrite", spec := "fnMustWrite", unfollowed := true, recurses := true, apart := false }
def FnMustWriteSaid : Prop := fnMustWriteRow.holds Try.pinned (OpenSpec.ofChange fnMustWriteSpec)

/-- ITS FALSE NEIGHBOUR: 'it returns false'. Refute it at one input. -/
def fnMustWriteWrong : ChangeSpec := { name := "fnMustWrite", fn := fun _ => fun
  | [d] => { results := [.lit (.bool false)], args := [d] }
  | _ => none }
def FnMustWriteWrongFalsely : Prop := fnMustWriteRow.holds Try.pinned (OpenSpec.ofChange fnMustWriteWrong)

/-- 'laws.FnExactMayReadFirst': WHATEVER THE INPUT: true; the input reads as it did. -/
def fnExactMayReadFirstSpec : ChangeSpec := { name := "fnExactMayReadFirst", fn := fun _ => fun
  | [d] => { results := [.lit (.bool true)], args := [d] }
  | _ => none }
def fnExactMayReadFirstRow : OpenClaim := { program := "ytlhcofkandeepaa", sum := "8dca86d706213e1fa766238fbac460551c7a28f077fd88a935121d97ad68ff18", func := "loop.example/g00983/laws.FnExactMayReadFirst", spec := "fnExactMayReadFirst", recurses := true, apart := false }
def FnExactMayReadFirstSaid : Prop := fnExactMayReadFirstRow.holds Try.pinned (OpenSpec.ofChange fnExactMayReadFirstSpec)

/-- ITS FALSE NEIGHBOUR: 'it returns false'. Refute it at one input. -/
def fnExactMayReadFirstWrong : ChangeSpec := { name := "fnExactMayReadFirst", fn := fun _ => fun
  | [d] => { results := [.lit (.bool false)], args := [d] }
  | _ => none }
def FnExactMayReadFirstWrongFalsely : Prop := fnExactMayReadFirstRow.holds Try.pinned (OpenSpec.ofChange fnExactMayReadFirstWrong)

/-- 'laws.FnExactMustLog': WHATEVER THE INPUT: true; the input reads as it did. -/
def fnExactMustLogSpec : ChangeSpec := { name := "fnExactMustLog", fn := fun _ => fun
  | [d] => { results := [.lit (.bool true)], args := [d] }
  | _ => none }
def fnExactMustLogRow : OpenClaim := { program := "ytlhcofkandeepaa", sum := "8dca86d706213e1fa766238fbac460551c7a28f077fd88a935121d97ad68ff18", func := "loop.example/g00983/laws.FnExactMustLog", spec := "fnExactMustLog", unfollowed := true, recurses := true, apart := false }
def FnExactMustLogSaid : Prop := fnExactMustLogRow.holds Try.pinned (OpenSpec.ofChange fnExactMustLogSpec)

/-- ITS FALSE NEIGHBOUR: 'it returns false'. Refute it at one input. -/
def fnExactMustLogWrong : ChangeSpec := { name := "fnExactMustLog", fn := fun _ => fun
  | [d] => { results := [.lit (.bool false)], args := [d] }
  | _ => none }
def FnExactMustLogWrongFalsely : Prop := fnExactMustLogRow.holds Try.pinned (OpenSpec.ofChange fnExactMustLogWrong)

/-- 'laws.FnExactNeedsLog': WHATEVER THE INPUT: true; the input reads as it did. -/
def fnExactNeedsLogSpec : ChangeSpec := { name := "fnExactNeedsLog", fn := fun _ => fun
  | [d1, d2] => { results := [.lit (.bool true)], args := [d1, d2] }
  | _ => none }
def fnExactNeedsLogRow : OpenClaim := { program := "ytlhcofkandeepaa", sum := "8dca86d706213e1fa766238fbac460551c7a28f077fd88a935121d97ad68ff18", func := "loop.example/g00983/laws.FnExactNeedsLog", spec := "fnExactNeedsLog", unfollowed := true, recurses := true, apart := false }
def FnExactNeedsLogSaid : Prop := fnExactNeedsLogRow.holds Try.pinned (OpenSpec.ofChange fnExactNeedsLogSpec)

/-- ITS FALSE NEIGHBOUR: 'it returns false'. Refute it at one input. -/
def fnExactNeedsLogWrong : ChangeSpec := { name := "fnExactNeedsLog", fn := fun _ => fun
  | [d1, d2] => { results := [.lit (.bool false)], args := [d1, d2] }
  | _ => none }
def FnExactNeedsLogWrongFalsely : Prop := fnExactNeedsLogRow.holds Try.pinned (OpenSpec.ofChange fnExactNeedsLogWrong)

/-- 'laws.FnExactIsRestartable': WHATEVER THE INPUT: true; the input reads as it did. -/
def fnExactIsRestartableSpec : ChangeSpec := { name := "fnExactIsRestartable", fn := fun _ => fun
  | [d] => { results := [.lit (.bool true)], args := [d] }
  | _ => none }
def fnExactIsRestartableRow : OpenClaim := { program := "ytlhcofkandeepaa", sum := "8dca86d706213e1fa766238fbac460551c7a28f077fd88a935121d97ad68ff18", func := "loop.example/g00983/laws.FnExactIsRestartable", spec := "fnExactIsRestartable", unfollowed := true, recurses := true, apart := false }
def FnExactIsRestartableSaid : Prop := fnExactIsRestartableRow.holds Try.pinned (OpenSpec.ofChange fnExactIsRestartableSpec)

/-- ITS FALSE NEIGHBOUR: 'it returns false'. Refute it at one input. -/
def fnExactIsRestartableWrong : ChangeSpec := { name := "fnExactIsRestartable", fn := fun _ => fun
  | [d] => { results := [.lit (.bool false)], args := [d] }
  | _ => none }
def FnExactIsRestartableWrongFalsely : Prop := fnExactIsRestartableRow.holds Try.pinned (OpenSpec.ofChange fnExactIsRestartableWrong)

/-- 'laws.FnExactLogRoom': WHATEVER THE INPUT: true; the input reads as it did. -/
def fnExactLogRoomSpec : ChangeSpec := { name := "fnExactLogRoom", fn := fun _ => fun
  | [d] => { results := [.lit (.bool true)], args := [d] }
  | _ => none }
def fnExactLogRoomRow : OpenClaim := { program := "ytlhcofkandeepaa", sum := "8dca86d706213e1fa766238fbac460551c7a28f077fd88a935121d97ad68ff18", func := "loop.example/g00983/laws.FnExactLogRoom", spec := "fnExactLogRoom", unfollowed := true, recurses := true, apart := false }
def FnExactLogRoomSaid : Prop := fnExactLogRoomRow.holds Try.pinned (OpenSpec.ofChange fnExactLogRoomSpec)

/-- ITS FALSE NEIGHBOUR: 'it returns false'. Refute it at one input. -/
def fnExactLogRoomWrong : ChangeSpec := { name := "fnExactLogRoom", fn := fun _ => fun
  | [d] => { results := [.lit (.bool false)], args := [d] }
  | _ => none }
def FnExactLogRoomWrongFalsely : Prop := fnExactLogRoomRow.holds Try.pinned (OpenSpec.ofChange fnExactLogRoomWrong)

/-- 'laws.FnLogs': WHATEVER THE INPUT: true; the input reads as it did. -/
def fnLogsSpec : ChangeSpec := { name := "fnLogs", fn := fun _ => fun
  | [d] => { results := [.lit (.bool true)], args := [d] }
  | _ => none }
def fnLogsRow : OpenClaim := { program := "ytlhcofkandeepaa", sum := "8dca86d706213e1fa766238fbac460551c7a28f077fd88a935121d97ad68ff18", func := "loop.example/g00983/laws.FnLogs", spec := "fnLogs", unfollowed := true, recurses := true, apart := false }
def FnLogsSaid : Prop := fnLogsRow.holds Try.pinned (OpenSpec.ofChange fnLogsSpec)

/-- ITS FALSE NEIGHBOUR: 'it returns false'. Refute it at one input. -/
def fnLogsWrong : ChangeSpec := { name := "fnLogs", fn := fun _ => fun
  | [d] => { results := [.lit (.bool false)], args := [d] }
  | _ => none }
def FnLogsWrongFalsely : Prop := fnLogsRow.holds Try.pinned (OpenSpec.ofChange fnLogsWrong)

/- THE SECOND FORM. 'bulk': how many values and letters a reading holds, each counted each time it is reached (what is shared counts as often as it is met; a slice's spare places count too). A statement '..UptoSaid' is the law's where the arguments, and the package variables that the reading takes, are together of bulk at most 1048576: NARROWER than '..Said'. Prove '..Said' where nothing that the law and all that it calls make is longer than what came in: it says more and counts as full. Else prove '..UptoSaid'. A law counts once. -/
mutual
def uptoBulk {H : Type} : DataW H → Nat
  | .lit (.string bytes) => bytes.length + 1
  | .lit _ => 1
  | .nil => 1
  | .ptr d => uptoBulk d + 1
  | .slice elems spare => uptoBulkAll elems + uptoBulkAll spare + 1
  | .agg parts => uptoBulkAll parts + 1
  | .iface _ d => uptoBulk d + 1
  | .map entries => uptoBulkEntries entries + 1
  | .held _ => 1
def uptoBulkAll {H : Type} : List (DataW H) → Nat
  | [] => 0
  | d :: r => uptoBulk d + uptoBulkAll r
def uptoBulkEntries {H : Type} : List (Lit × DataW H) → Nat
  | [] => 0
  | x :: r => uptoBulkEntry x + uptoBulkEntries r
def uptoBulkEntry {H : Type} : Lit × DataW H → Nat
  | (.string bytes, d) => bytes.length + uptoBulk d + 1
  | (_, d) => uptoBulk d + 1
 end
def uptoSmall : (H : Type) → List (DataW H) → Bool := fun _ ds => decide (uptoBulkAll ds ≤ 1048576)
def OpenSpec.upto (s : _root_.Go.ChangeSpec) : _root_.Go.OpenSpec := { _root_.Go.OpenSpec.ofChange s with cond := some uptoSmall }

/-- 'laws.FnExactMayWrite', WHERE WHAT IT READS IS OF BULK AT MOST 1048576: true; the input reads as it did. -/
def fnExactMayWriteUptoRow : OpenClaim := { program := "ytlhcofkandeepaa", sum := "8dca86d706213e1fa766238fbac460551c7a28f077fd88a935121d97ad68ff18", func := "loop.example/g00983/laws.FnExactMayWrite", spec := "fnExactMayWrite", unfollowed := true, recurses := true, apart := false, narrowed := true }
def FnExactMayWriteUptoSaid : Prop := fnExactMayWriteUptoRow.holds Try.pinned (OpenSpec.upto fnExactMayWriteSpec)

/-- 'laws.FnExactMustWrite', WHERE WHAT IT READS IS OF BULK AT MOST 1048576: true; the input reads as it did. -/
def fnExactMustWriteUptoRow : OpenClaim := { program := "ytlhcofkandeepaa", sum := "8dca86d706213e1fa766238fbac460551c7a28f077fd88a935121d97ad68ff18", func := "loop.example/g00983/laws.FnExactMustWrite", spec := "fnExactMustWrite", unfollowed := true, recurses := true, apart := false, narrowed := true }
def FnExactMustWriteUptoSaid : Prop := fnExactMustWriteUptoRow.holds Try.pinned (OpenSpec.upto fnExactMustWriteSpec)

/-- 'laws.FnMustWrite', WHERE WHAT IT READS IS OF BULK AT MOST 1048576: true; the input reads as it did. -/
def fnMustWriteUptoRow : OpenClaim := { program := "ytlhcofkandeepaa", sum := "8dca86d706213e1fa766238fbac460551c7a28f077fd88a935121d97ad68ff18", func := "loop.example/g00983/laws.FnMustWrite", spec := "fnMustWrite", unfollowed := true, recurses := true, apart := false, narrowed := true }
def FnMustWriteUptoSaid : Prop := fnMustWriteUptoRow.holds Try.pinned (OpenSpec.upto fnMustWriteSpec)

/-- 'laws.FnExactMayReadFirst', WHERE WHAT IT READS IS OF BULK AT MOST 1048576: true; the input reads as it did. -/
def fnExactMayReadFirstUptoRow : OpenClaim := { program := "ytlhcofkandeepaa", sum := "8dca86d706213e1fa766238fbac460551c7a28f077fd88a935121d97ad68ff18", func := "loop.example/g00983/laws.FnExactMayReadFirst", spec := "fnExactMayReadFirst", recurses := true, apart := false, narrowed := true }
def FnExactMayReadFirstUptoSaid : Prop := fnExactMayReadFirstUptoRow.holds Try.pinned (OpenSpec.upto fnExactMayReadFirstSpec)

/-- 'laws.FnExactMustLog', WHERE WHAT IT READS IS OF BULK AT MOST 1048576: true; the input reads as it did. -/
def fnExactMustLogUptoRow : OpenClaim := { program := "ytlhcofkandeepaa", sum := "8dca86d706213e1fa766238fbac460551c7a28f077fd88a935121d97ad68ff18", func := "loop.example/g00983/laws.FnExactMustLog", spec := "fnExactMustLog", unfollowed := true, recurses := true, apart := false, narrowed := true }
def FnExactMustLogUptoSaid : Prop := fnExactMustLogUptoRow.holds Try.pinned (OpenSpec.upto fnExactMustLogSpec)

/-- 'laws.FnExactNeedsLog', WHERE WHAT IT READS IS OF BULK AT MOST 1048576: true; the input reads as it did. -/
def fnExactNeedsLogUptoRow : OpenClaim := { program := "ytlhcofkandeepaa", sum := "8dca86d706213e1fa766238fbac460551c7a28f077fd88a935121d97ad68ff18", func := "loop.example/g00983/laws.FnExactNeedsLog", spec := "fnExactNeedsLog", unfollowed := true, recurses := true, apart := false, narrowed := true }
def FnExactNeedsLogUptoSaid : Prop := fnExactNeedsLogUptoRow.holds Try.pinned (OpenSpec.upto fnExactNeedsLogSpec)

/-- 'laws.FnExactIsRestartable', WHERE WHAT IT READS IS OF BULK AT MOST 1048576: true; the input reads as it did. -/
def fnExactIsRestartableUptoRow : OpenClaim := { program := "ytlhcofkandeepaa", sum := "8dca86d706213e1fa766238fbac460551c7a28f077fd88a935121d97ad68ff18", func := "loop.example/g00983/laws.FnExactIsRestartable", spec := "fnExactIsRestartable", unfollowed := true, recurses := true, apart := false, narrowed := true }
def FnExactIsRestartableUptoSaid : Prop := fnExactIsRestartableUptoRow.holds Try.pinned (OpenSpec.upto fnExactIsRestartableSpec)

/-- 'laws.FnExactLogRoom', WHERE WHAT IT READS IS OF BULK AT MOST 1048576: true; the input reads as it did. -/
def fnExactLogRoomUptoRow : OpenClaim := { program := "ytlhcofkandeepaa", sum := "8dca86d706213e1fa766238fbac460551c7a28f077fd88a935121d97ad68ff18", func := "loop.example/g00983/laws.FnExactLogRoom", spec := "fnExactLogRoom", unfollowed := true, recurses := true, apart := false, narrowed := true }
def FnExactLogRoomUptoSaid : Prop := fnExactLogRoomUptoRow.holds Try.pinned (OpenSpec.upto fnExactLogRoomSpec)

/-- 'laws.FnLogs', WHERE WHAT IT READS IS OF BULK AT MOST 1048576: true; the input reads as it did. -/
def fnLogsUptoRow : OpenClaim := { program := "ytlhcofkandeepaa", sum := "8dca86d706213e1fa766238fbac460551c7a28f077fd88a935121d97ad68ff18", func := "loop.example/g00983/laws.FnLogs", spec := "fnLogs", unfollowed := true, recurses := true, apart := false, narrowed := true }
def FnLogsUptoSaid : Prop := fnLogsUptoRow.holds Try.pinned (OpenSpec.upto fnLogsSpec)

end Rows
end Go.Proofs.Ytlhcofkandeepaa
