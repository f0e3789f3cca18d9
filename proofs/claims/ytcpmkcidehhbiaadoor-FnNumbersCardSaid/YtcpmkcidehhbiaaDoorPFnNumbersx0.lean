/- Walks of the functions that a statement reaches, written by a program (the printing program, mended): no condition. -/
import Derived.Test.YtcpmkcidehhbiaaDoorProg
import Derived.Test.YtcpmkcidehhbiaaDoorMakecap
import Derived.Below
import Derived.Deep.Draws
import Derived.Deep.AppendLies
import Derived.Maps.AppendAt
import Derived.OwnWalk
import Derived.Laws.BytesArg
import Derived.Laws.MakeOwn
import Derived.Laws.OwnMore
import Derived.Deep.OwnRows
import Derived.Tactics
import Derived.Lib.ConvBytes
import Derived.Laws.Slices
import Derived.WalkKit
import Derived.KernelRfl
import Derived.RowKit3
import Derived.Deep.LoopGhost
import Derived.Deep.QuietTactic
import Derived.BigQuiet
import Derived.WideLaws
import Derived.Deep.DeepCutAuto
import Derived.Deep.CutBlock
import Derived.Deep.RegionHeld3
import Derived.Laws.Rows
import Derived.Lib.AppendStr
import Derived.ArgAppend
import Derived.Laws.IdiomCopy
import Derived.OrdersHeld
import Derived.Laws.BitsLemmas
import Derived.RowKit
import Derived.Test.YtcpmkcidehhbiaaDoorGFnNumbers
import Derived.Test.YtcpmkcidehhbiaaDoorShelf
import Derived.WalkSpells
import Derived.Lib.AppendIntMem
import Derived.Lib.AtoiOr
import Derived.Lib.AtoiErrMem
import Derived.Test.YtcpmkcidehhbiaaDoorWWords
import Derived.Test.YtcpmkcidehhbiaaDoorWLast
import Derived.Test.YtcpmkcidehhbiaaDoorWTab
import Derived.Test.YtcpmkcidehhbiaaDoorWFour
import Derived.Test.YtcpmkcidehhbiaaDoorWQPut
import Derived.Test.YtcpmkcidehhbiaaDoorWApart
import Derived.Test.YtcpmkcidehhbiaaDoorWArr
import Derived.Test.YtcpmkcidehhbiaaDoorWZeros
import Derived.Test.YtcpmkcidehhbiaaDoorWFoot
import Derived.Test.YtcpmkcidehhbiaaDoorWKept
import Derived.Test.YtcpmkcidehhbiaaDoorWShare
import Derived.Test.YtcpmkcidehhbiaaDoorWN
import Derived.Test.YtcpmkcidehhbiaaDoorWFootNe
import Derived.Test.YtcpmkcidehhbiaaDoorWAt
import Derived.Test.YtcpmkcidehhbiaaDoorWEqStruct
import Derived.Test.YtcpmkcidehhbiaaDoorWRepsOne
import Derived.Test.YtcpmkcidehhbiaaDoorWInv
import Derived.Test.YtcpmkcidehhbiaaDoorWInvWords
import Derived.Test.YtcpmkcidehhbiaaDoorWGuard
import Derived.Test.YtcpmkcidehhbiaaDoorWNEv
import Derived.Test.YtcpmkcidehhbiaaDoorWMore
namespace Go.Proofs.YtcpmkcidehhbiaaDoor.PFnNumbers
open Go.RowKit Go.Proofs.YtcpmkcidehhbiaaDoorW.PrintWords Go.Proofs.YtcpmkcidehhbiaaDoorW.PrintLast Go.Proofs.YtcpmkcidehhbiaaDoorW.PrintMore
attribute [local go_sem] max2_int min2_int max_two min_two max_three min_three max_four min_four   -- for this text's walks alone
set_option linter.unusedVariables false
set_option linter.unusedSimpArgs false



def errW : Option Int → Value
  | none => .nilIface
  | some c => .iface 0 (.int .i64 c)
theorem errW_none : errW none = .nilIface := rfl
theorem errW_some (c : Int) : errW (some c) = .iface 0 (.int .i64 c) := rfl

theorem info3 : (Tryd.prog.info? 3).map (fun i => (i.zero, i.size, i.bytes)) = some (some (.int .i64 0), 1, 8) := by kernel_rfl
-- the values' own types

end Go.Proofs.YtcpmkcidehhbiaaDoor.PFnNumbers
