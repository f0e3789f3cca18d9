/- Walks of the functions that a statement reaches, written by a program (the printing program, mended): no condition. -/
import Derived.Test.YtakejkdkchlanaaProg
import Derived.Test.YtakejkdkchlanaaMakecap
import Derived.Below
import Derived.Deep.Draws
import Derived.Deep.AppendLies
import Derived.Maps.AppendAt
import Derived.OwnWalk
import Derived.Laws.BytesArg
import Derived.Laws.MakeOwn
import Derived.Laws.OwnMore
import Derived.Deep.OwnRows
import Derived.Tactics
import Derived.Lib.ConvBytes
import Derived.Laws.Slices
import Derived.WalkKit
import Derived.KernelRfl
import Derived.RowKit3
import Derived.Deep.LoopGhost
import Derived.Deep.QuietTactic
import Derived.BigQuiet
import Derived.WideLaws
import Derived.Deep.DeepCutAuto
import Derived.Deep.CutBlock
import Derived.Deep.RegionHeld3
import Derived.Laws.Rows
import Derived.Lib.AppendStr
import Derived.ArgAppend
import Derived.Laws.IdiomCopy
import Derived.OrdersHeld
import Derived.Laws.BitsLemmas
import Derived.RowKit
import Derived.Test.YtakejkdkchlanaaWWords
import Derived.Test.YtakejkdkchlanaaWLast
import Derived.Test.YtakejkdkchlanaaWTab
import Derived.Test.YtakejkdkchlanaaWFour
import Derived.Test.YtakejkdkchlanaaWQPut
import Derived.Test.YtakejkdkchlanaaWApart
import Derived.Test.YtakejkdkchlanaaWArr
import Derived.Test.YtakejkdkchlanaaWZeros
import Derived.Test.YtakejkdkchlanaaWFoot
import Derived.Test.YtakejkdkchlanaaWKept
import Derived.Test.YtakejkdkchlanaaWShare
import Derived.Test.YtakejkdkchlanaaWN
import Derived.Test.YtakejkdkchlanaaWFootNe
import Derived.Test.YtakejkdkchlanaaWAt
import Derived.Test.YtakejkdkchlanaaWEqStruct
import Derived.Test.YtakejkdkchlanaaWRepsOne
import Derived.Test.YtakejkdkchlanaaWInv
import Derived.Test.YtakejkdkchlanaaWInvWords
import Derived.Test.YtakejkdkchlanaaWGuard
import Derived.Test.YtakejkdkchlanaaWNEv
import Derived.Test.YtakejkdkchlanaaWMore
namespace Go.Proofs.Ytakejkdkchlanaa.PFnExactFirstDiffering
open Go.RowKit Go.Proofs.YtakejkdkchlanaaW.PrintWords Go.Proofs.YtakejkdkchlanaaW.PrintLast Go.Proofs.YtakejkdkchlanaaW.PrintMore
attribute [local go_sem] max2_int min2_int max_two min_two max_three min_three max_four min_four   -- for this text's walks alone
set_option linter.unusedVariables false
set_option linter.unusedSimpArgs false



def errW : Option Int → Value
  | none => .nilIface
  | some c => .iface 0 (.int .i64 c)
theorem errW_none : errW none = .nilIface := rfl
theorem errW_some (c : Int) : errW (some c) = .iface 0 (.int .i64 c) := rfl

theorem info3 : (Try.prog.info? 3).map (fun i => (i.zero, i.size, i.bytes)) = some (some (.int .i64 0), 1, 8) := by kernel_rfl
-- the values' own types

end Go.Proofs.Ytakejkdkchlanaa.PFnExactFirstDiffering
