-- By a program of this session (wip/xprint.py over the kit's print).
import Derived.Test.YthpnppfpmhlkaaaProg
import Derived.Below
import Derived.Deep.Draws
import Derived.Deep.AppendLies
import Derived.Maps.AppendAt
import Derived.OwnWalk
import Derived.Laws.BytesArg
import Derived.Laws.MakeOwn
import Derived.Laws.OwnMore
import Derived.Deep.OwnRows
import Derived.Tactics
import Derived.Lib.ConvBytes
import Derived.Laws.Slices
import Derived.WalkKit
import Derived.KernelRfl
import Derived.RowKit3
import Derived.Deep.LoopGhost
import Derived.Deep.QuietTactic
import Derived.BigQuiet
import Derived.WideLaws
import Derived.Deep.DeepCutAuto
import Derived.Deep.CutBlock
import Derived.Deep.RegionHeld3
import Derived.Laws.Rows
import Derived.Lib.AppendStr
import Derived.ArgAppend
import Derived.Laws.IdiomCopy
import Derived.OrdersHeld
import Derived.Laws.BitsLemmas
import Derived.RowKit
import Derived.LoopTactic
import Derived.Laws.CopyOwn
import Derived.Laws.RangeAny
import Derived.Lib.SliceRun
import Derived.Test.YthpnppfpmhlkaaaZWords
import Derived.Test.YthpnppfpmhlkaaaWWords
import Derived.Test.YthpnppfpmhlkaaaWLast
import Derived.Test.YthpnppfpmhlkaaaWTab
import Derived.Test.YthpnppfpmhlkaaaWApart
import Derived.Test.YthpnppfpmhlkaaaWArr
import Derived.Test.YthpnppfpmhlkaaaWZeros
import Derived.Test.YthpnppfpmhlkaaaWFoot
import Derived.Test.YthpnppfpmhlkaaaWKept
import Derived.Test.YthpnppfpmhlkaaaWShare
import Derived.Test.YthpnppfpmhlkaaaWEqStruct
import Derived.Test.YthpnppfpmhlkaaaWRepsOne
import Derived.Test.YthpnppfpmhlkaaaWGuard
import Derived.Test.YthpnppfpmhlkaaaWMore
namespace Go.Proofs.Ythpnppfpmhlkaaa.X
open Go.RowKit Go.Proofs.YthpnppfpmhlkaaaW.PrintWords Go.Proofs.YthpnppfpmhlkaaaW.PrintLast Go.Proofs.YthpnppfpmhlkaaaW.PrintMore
attribute [local go_sem] max2_int min2_int max_two min_two max_three min_three max_four min_four Go.Proofs.Ythpnppfpmhlkaaa.Z.leq_string Go.Proofs.Ythpnppfpmhlkaaa.Z.gtr_string Go.Proofs.Ythpnppfpmhlkaaa.Z.geq_string   -- for this text's walks alone
set_option linter.unusedVariables false
set_option linter.unusedSimpArgs false



def errW : Option Int → Value
  | none => .nilIface
  | some c => .iface 0 (.int .i64 c)
theorem errW_none : errW none = .nilIface := rfl
theorem errW_some (c : Int) : errW (some c) = .iface 0 (.int .i64 c) := rfl

theorem info5 : (Try.prog.info? 5).map (fun i => (i.zero, i.size, i.bytes)) = some (some (.int .u8 0), 1, 1) := by kernel_rfl
theorem info9 : (Try.prog.info? 9).map (fun i => (i.zero, i.size, i.bytes)) = some (some (.string ⟨#[]⟩), 1, 16) := by kernel_rfl
-- the values' own types

end Go.Proofs.Ythpnppfpmhlkaaa.X
