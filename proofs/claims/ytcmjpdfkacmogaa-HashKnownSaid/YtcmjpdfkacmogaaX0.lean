-- By a program of this session (wip/xprint.py over the kit's print).
import Derived.Test.YtcmjpdfkacmogaaProg
import Derived.Below
import Derived.Deep.Draws
import Derived.Deep.AppendLies
import Derived.Maps.AppendAt
import Derived.OwnWalk
import Derived.Laws.BytesArg
import Derived.Laws.MakeOwn
import Derived.Laws.OwnMore
import Derived.Deep.OwnRows
import Derived.Tactics
import Derived.Lib.ConvBytes
import Derived.Laws.Slices
import Derived.WalkKit
import Derived.KernelRfl
import Derived.RowKit3
import Derived.Deep.LoopGhost
import Derived.Deep.QuietTactic
import Derived.BigQuiet
import Derived.WideLaws
import Derived.Deep.DeepCutAuto
import Derived.Deep.CutBlock
import Derived.Deep.RegionHeld3
import Derived.Laws.Rows
import Derived.Lib.AppendStr
import Derived.ArgAppend
import Derived.Laws.IdiomCopy
import Derived.OrdersHeld
import Derived.Laws.BitsLemmas
import Derived.RowKit
import Derived.LoopTactic
import Derived.Laws.CopyOwn
import Derived.Laws.RangeAny
import Derived.Lib.SliceRun
import Derived.Test.YtcmjpdfkacmogaaZWords
import Derived.Test.YtcmjpdfkacmogaaWWords
import Derived.Test.YtcmjpdfkacmogaaWLast
import Derived.Test.YtcmjpdfkacmogaaWTab
import Derived.Test.YtcmjpdfkacmogaaWApart
import Derived.Test.YtcmjpdfkacmogaaWArr
import Derived.Test.YtcmjpdfkacmogaaWZeros
import Derived.Test.YtcmjpdfkacmogaaWFoot
import Derived.Test.YtcmjpdfkacmogaaWKept
import Derived.Test.YtcmjpdfkacmogaaWShare
import Derived.Test.YtcmjpdfkacmogaaWEqStruct
import Derived.Test.YtcmjpdfkacmogaaWRepsOne
import Derived.Test.YtcmjpdfkacmogaaWGuard
import Derived.Test.YtcmjpdfkacmogaaWMore
namespace Go.Proofs.Ytcmjpdfkacmogaa.X
open Go.RowKit Go.Proofs.YtcmjpdfkacmogaaW.PrintWords Go.Proofs.YtcmjpdfkacmogaaW.PrintLast Go.Proofs.YtcmjpdfkacmogaaW.PrintMore
attribute [local go_sem] max2_int min2_int max_two min_two max_three min_three max_four min_four Go.Proofs.Ytcmjpdfkacmogaa.Z.leq_string Go.Proofs.Ytcmjpdfkacmogaa.Z.gtr_string Go.Proofs.Ytcmjpdfkacmogaa.Z.geq_string   -- for this text's walks alone
set_option linter.unusedVariables false
set_option linter.unusedSimpArgs false



def errW : Option Int → Value
  | none => .nilIface
  | some c => .iface 0 (.int .i64 c)
theorem errW_none : errW none = .nilIface := rfl
theorem errW_some (c : Int) : errW (some c) = .iface 0 (.int .i64 c) := rfl

theorem info5 : (Try.prog.info? 5).map (fun i => (i.zero, i.size, i.bytes)) = some (some (.int .u8 0), 1, 1) := by kernel_rfl
-- the values' own types

end Go.Proofs.Ytcmjpdfkacmogaa.X
