/-
  No cell of these rows narrows 'for every input' (looked for: loops, veiled, ifaces, maps, wideKeys, modest, calm, conditions, laid).
  DERIVED. THE GIVEN ROWS OF THIS SEAT. 7 by the template 'for every input the law returns true; each argument reads behind the call as it read before'; 0 by the template 'total and deterministic' (their statements: YtbohpjbcjnapfaaTotals.lean).
  GIVEN WITH THE SEED: the statements are not yours to turn. If you find one false, say at which input.
  Laid BY PROGRAM, IN A SANDBOX (cutbox-rows.mjs): the forced cells as the released guide's own fill.sh prints them over the translation 9b605f8752b6f782… (all of the seat's roots in one cut). By AI agents, Wed Nov 11 2026. No macro, syntax, notation, axiom, sorry.
-/
import Derived.Test.YtbohpjbcjnapfaaChecked
import GoSem.Claim
import GoSem.ClaimJoined
import GoSem.ClaimMapViews
import Derived.JoinedTies
import Derived.KernelRfl
namespace Go.Proofs.Ytbohpjbcjnapfaa
/- THE CELL 'sum', in the pinned program and in every row, IS THE sha256 OF THE DUMP (.gsa) THAT YtbohpjbcjnapfaaProg.lean LOADS. Nothing in Lean hashes anything: it is a label: what it is worth is what the hold of that sum in a sandbox is worth. -/
noncomputable def Try.pinned : Pinned := { name := "ytbohpjbcjnapfaa", sum := "9b605f8752b6f7827343b1637ca78caabddf890150a70089924f8cbeda306bd3", checked := Try.checked }
namespace Rows
def none {H : Type} : Left H := { results := [], args := [] }

/-- 'cofferlaw05.TupleWrites': WHATEVER THE INPUT: true; the input reads as it did. -/
def tupleWritesSpec : ChangeSpec := { name := "tupleWrites", fn := fun _ => fun
  | [d1, d2] => { results := [.lit (.bool true)], args := [d1, d2] }
  | _ => none }
def tupleWritesRow : OpenClaim := { program := "ytbohpjbcjnapfaa", sum := "9b605f8752b6f7827343b1637ca78caabddf890150a70089924f8cbeda306bd3", func := "coffer/cofferlaw05.TupleWrites", spec := "tupleWrites", inPlace := ["internal/abi.NoEscape", "internal/bytealg.MakeNoZero", "internal/bytealg.abigen_runtime_cmpstring"], apart := false }
def TupleWritesSaid : Prop := tupleWritesRow.holds Try.pinned (OpenSpec.ofChange tupleWritesSpec)

/-- ITS FALSE NEIGHBOUR: 'it returns false'. Refute it at one input. -/
def tupleWritesWrong : ChangeSpec := { name := "tupleWrites", fn := fun _ => fun
  | [d1, d2] => { results := [.lit (.bool false)], args := [d1, d2] }
  | _ => none }
def TupleWritesWrongFalsely : Prop := tupleWritesRow.holds Try.pinned (OpenSpec.ofChange tupleWritesWrong)

/-- 'cofferlaw05.TupleReads': WHATEVER THE INPUT: true; the input reads as it did. -/
def tupleReadsSpec : ChangeSpec := { name := "tupleReads", fn := fun _ => fun
  | [d] => { results := [.lit (.bool true)], args := [d] }
  | _ => none }
def tupleReadsRow : OpenClaim := { program := "ytbohpjbcjnapfaa", sum := "9b605f8752b6f7827343b1637ca78caabddf890150a70089924f8cbeda306bd3", func := "coffer/cofferlaw05.TupleReads", spec := "tupleReads", inPlace := ["internal/abi.NoEscape", "internal/bytealg.MakeNoZero", "internal/bytealg.abigen_runtime_cmpstring"], apart := false }
def TupleReadsSaid : Prop := tupleReadsRow.holds Try.pinned (OpenSpec.ofChange tupleReadsSpec)

/-- ITS FALSE NEIGHBOUR: 'it returns false'. Refute it at one input. -/
def tupleReadsWrong : ChangeSpec := { name := "tupleReads", fn := fun _ => fun
  | [d] => { results := [.lit (.bool false)], args := [d] }
  | _ => none }
def TupleReadsWrongFalsely : Prop := tupleReadsRow.holds Try.pinned (OpenSpec.ofChange tupleReadsWrong)

/-- 'cofferlaw05.TupleOrder': WHATEVER THE INPUT: true; the input reads as it did. -/
def tupleOrderSpec : ChangeSpec := { name := "tupleOrder", fn := fun _ => fun
  | [d1, d2, d3] => { results := [.lit (.bool true)], args := [d1, d2, d3] }
  | _ => none }
def tupleOrderRow : OpenClaim := { program := "ytbohpjbcjnapfaa", sum := "9b605f8752b6f7827343b1637ca78caabddf890150a70089924f8cbeda306bd3", func := "coffer/cofferlaw05.TupleOrder", spec := "tupleOrder", inPlace := ["internal/abi.NoEscape", "internal/bytealg.MakeNoZero", "internal/bytealg.abigen_runtime_cmpstring"], apart := false }
def TupleOrderSaid : Prop := tupleOrderRow.holds Try.pinned (OpenSpec.ofChange tupleOrderSpec)

/-- ITS FALSE NEIGHBOUR: 'it returns false'. Refute it at one input. -/
def tupleOrderWrong : ChangeSpec := { name := "tupleOrder", fn := fun _ => fun
  | [d1, d2, d3] => { results := [.lit (.bool false)], args := [d1, d2, d3] }
  | _ => none }
def TupleOrderWrongFalsely : Prop := tupleOrderRow.holds Try.pinned (OpenSpec.ofChange tupleOrderWrong)

/-- 'cofferlaw05.TupleBack': WHATEVER THE INPUT: true; the input reads as it did. -/
def tupleBackSpec : ChangeSpec := { name := "tupleBack", fn := fun _ => fun
  | [d1, d2, d3] => { results := [.lit (.bool true)], args := [d1, d2, d3] }
  | _ => none }
def tupleBackRow : OpenClaim := { program := "ytbohpjbcjnapfaa", sum := "9b605f8752b6f7827343b1637ca78caabddf890150a70089924f8cbeda306bd3", func := "coffer/cofferlaw05.TupleBack", spec := "tupleBack", inPlace := ["internal/abi.NoEscape", "internal/bytealg.MakeNoZero", "internal/bytealg.abigen_runtime_cmpstring"], apart := false }
def TupleBackSaid : Prop := tupleBackRow.holds Try.pinned (OpenSpec.ofChange tupleBackSpec)

/-- ITS FALSE NEIGHBOUR: 'it returns false'. Refute it at one input. -/
def tupleBackWrong : ChangeSpec := { name := "tupleBack", fn := fun _ => fun
  | [d1, d2, d3] => { results := [.lit (.bool false)], args := [d1, d2, d3] }
  | _ => none }
def TupleBackWrongFalsely : Prop := tupleBackRow.holds Try.pinned (OpenSpec.ofChange tupleBackWrong)

/-- 'cofferlaw05.TupleLimits': WHATEVER THE INPUT: true; the input reads as it did. -/
def tupleLimitsSpec : ChangeSpec := { name := "tupleLimits", fn := fun _ => fun
  | [d1, d2, d3] => { results := [.lit (.bool true)], args := [d1, d2, d3] }
  | _ => none }
def tupleLimitsRow : OpenClaim := { program := "ytbohpjbcjnapfaa", sum := "9b605f8752b6f7827343b1637ca78caabddf890150a70089924f8cbeda306bd3", func := "coffer/cofferlaw05.TupleLimits", spec := "tupleLimits", inPlace := ["internal/abi.NoEscape", "internal/bytealg.MakeNoZero", "internal/bytealg.abigen_runtime_cmpstring"], apart := false }
def TupleLimitsSaid : Prop := tupleLimitsRow.holds Try.pinned (OpenSpec.ofChange tupleLimitsSpec)

/-- ITS FALSE NEIGHBOUR: 'it returns false'. Refute it at one input. -/
def tupleLimitsWrong : ChangeSpec := { name := "tupleLimits", fn := fun _ => fun
  | [d1, d2, d3] => { results := [.lit (.bool false)], args := [d1, d2, d3] }
  | _ => none }
def TupleLimitsWrongFalsely : Prop := tupleLimitsRow.holds Try.pinned (OpenSpec.ofChange tupleLimitsWrong)

/-- 'cofferlaw05.TupleSizes': WHATEVER THE INPUT: true; the input reads as it did. -/
def tupleSizesSpec : ChangeSpec := { name := "tupleSizes", fn := fun _ => fun
  | [d1, d2] => { results := [.lit (.bool true)], args := [d1, d2] }
  | _ => none }
def tupleSizesRow : OpenClaim := { program := "ytbohpjbcjnapfaa", sum := "9b605f8752b6f7827343b1637ca78caabddf890150a70089924f8cbeda306bd3", func := "coffer/cofferlaw05.TupleSizes", spec := "tupleSizes", inPlace := ["internal/abi.NoEscape", "internal/bytealg.MakeNoZero", "internal/bytealg.abigen_runtime_cmpstring"], apart := false }
def TupleSizesSaid : Prop := tupleSizesRow.holds Try.pinned (OpenSpec.ofChange tupleSizesSpec)

/-- ITS FALSE NEIGHBOUR: 'it returns false'. Refute it at one input. -/
def tupleSizesWrong : ChangeSpec := { name := "tupleSizes", fn := fun _ => fun
  | [d1, d2] => { results := [.lit (.bool false)], args := [d1, d2] }
  | _ => none }
def TupleSizesWrongFalsely : Prop := tupleSizesRow.holds Try.pinned (OpenSpec.ofChange tupleSizesWrong)

/-- 'cofferlaw05.TupleApart': WHATEVER THE INPUT: true; the input reads as it did. -/
def tupleApartSpec : ChangeSpec := { name := "tupleApart", fn := fun _ => fun
  | [d] => { results := [.lit (.bool true)], args := [d] }
  | _ => none }
def tupleApartRow : OpenClaim := { program := "ytbohpjbcjnapfaa", sum := "9b605f8752b6f7827343b1637ca78caabddf890150a70089924f8cbeda306bd3", func := "coffer/cofferlaw05.TupleApart", spec := "tupleApart", inPlace := ["internal/abi.NoEscape", "internal/bytealg.MakeNoZero", "internal/bytealg.abigen_runtime_cmpstring"], apart := false }
def TupleApartSaid : Prop := tupleApartRow.holds Try.pinned (OpenSpec.ofChange tupleApartSpec)

/-- ITS FALSE NEIGHBOUR: 'it returns false'. Refute it at one input. -/
def tupleApartWrong : ChangeSpec := { name := "tupleApart", fn := fun _ => fun
  | [d] => { results := [.lit (.bool false)], args := [d] }
  | _ => none }
def TupleApartWrongFalsely : Prop := tupleApartRow.holds Try.pinned (OpenSpec.ofChange tupleApartWrong)

/- THE SECOND FORM. 'bulk': how many values and letters a reading holds, each counted each time it is reached (what is shared counts as often as it is met; a slice's spare places count too). A statement '..UptoSaid' is the law's where the arguments, and the package variables that the reading takes, are together of bulk at most 1048576: NARROWER than '..Said'. Prove '..Said' where nothing that the law and all that it calls make is longer than what came in: it says more and counts as full. Else prove '..UptoSaid'. A law counts once. -/
mutual
def uptoBulk {H : Type} : DataW H → Nat
  | .lit (.string bytes) => bytes.length + 1
  | .lit _ => 1
  | .nil => 1
  | .ptr d => uptoBulk d + 1
  | .slice elems spare => uptoBulkAll elems + uptoBulkAll spare + 1
  | .agg parts => uptoBulkAll parts + 1
  | .iface _ d => uptoBulk d + 1
  | .map entries => uptoBulkEntries entries + 1
  | .held _ => 1
def uptoBulkAll {H : Type} : List (DataW H) → Nat
  | [] => 0
  | d :: r => uptoBulk d + uptoBulkAll r
def uptoBulkEntries {H : Type} : List (Lit × DataW H) → Nat
  | [] => 0
  | x :: r => uptoBulkEntry x + uptoBulkEntries r
def uptoBulkEntry {H : Type} : Lit × DataW H → Nat
  | (.string bytes, d) => bytes.length + uptoBulk d + 1
  | (_, d) => uptoBulk d + 1
 end
def uptoSmall : (H : Type) → List (DataW H) → Bool := fun _ ds => decide (uptoBulkAll ds ≤ 1048576)
def OpenSpec.upto (s : _root_.Go.ChangeSpec) : _root_.Go.OpenSpec := { _root_.Go.OpenSpec.ofChange s with cond := some uptoSmall }

/-- 'cofferlaw05.TupleWrites', WHERE WHAT IT READS IS OF BULK AT MOST 1048576: true; the input reads as it did. -/
def tupleWritesUptoRow : OpenClaim := { program := "ytbohpjbcjnapfaa", sum := "9b605f8752b6f7827343b1637ca78caabddf890150a70089924f8cbeda306bd3", func := "coffer/cofferlaw05.TupleWrites", spec := "tupleWrites", inPlace := ["internal/abi.NoEscape", "internal/bytealg.MakeNoZero", "internal/bytealg.abigen_runtime_cmpstring"], apart := false, narrowed := true }
def TupleWritesUptoSaid : Prop := tupleWritesUptoRow.holds Try.pinned (OpenSpec.upto tupleWritesSpec)

/-- 'cofferlaw05.TupleReads', WHERE WHAT IT READS IS OF BULK AT MOST 1048576: true; the input reads as it did. -/
def tupleReadsUptoRow : OpenClaim := { program := "ytbohpjbcjnapfaa", sum := "9b605f8752b6f7827343b1637ca78caabddf890150a70089924f8cbeda306bd3", func := "coffer/cofferlaw05.TupleReads", spec := "tupleReads", inPlace := ["internal/abi.NoEscape", "internal/bytealg.MakeNoZero", "internal/bytealg.abigen_runtime_cmpstring"], apart := false, narrowed := true }
def TupleReadsUptoSaid : Prop := tupleReadsUptoRow.holds Try.pinned (OpenSpec.upto tupleReadsSpec)

/-- 'cofferlaw05.TupleOrder', WHERE WHAT IT READS IS OF BULK AT MOST 1048576: true; the input reads as it did. -/
def tupleOrderUptoRow : OpenClaim := { program := "ytbohpjbcjnapfaa", sum := "9b605f8752b6f7827343b1637ca78caabddf890150a70089924f8cbeda306bd3", func := "coffer/cofferlaw05.TupleOrder", spec := "tupleOrder", inPlace := ["internal/abi.NoEscape", "internal/bytealg.MakeNoZero", "internal/bytealg.abigen_runtime_cmpstring"], apart := false, narrowed := true }
def TupleOrderUptoSaid : Prop := tupleOrderUptoRow.holds Try.pinned (OpenSpec.upto tupleOrderSpec)

/-- 'cofferlaw05.TupleBack', WHERE WHAT IT READS IS OF BULK AT MOST 1048576: true; the input reads as it did. -/
def tupleBackUptoRow : OpenClaim := { program := "ytbohpjbcjnapfaa", sum := "9b605f8752b6f7827343b1637ca78caabddf890150a70089924f8cbeda306bd3", func := "coffer/cofferlaw05.TupleBack", spec := "tupleBack", inPlace := ["internal/abi.NoEscape", "internal/bytealg.MakeNoZero", "internal/bytealg.abigen_runtime_cmpstring"], apart := false, narrowed := true }
def TupleBackUptoSaid : Prop := tupleBackUptoRow.holds Try.pinned (OpenSpec.upto tupleBackSpec)

/-- 'cofferlaw05.TupleLimits', WHERE WHAT IT READS IS OF BULK AT MOST 1048576: true; the input reads as it did. -/
def tupleLimitsUptoRow : OpenClaim := { program := "ytbohpjbcjnapfaa", sum := "9b605f8752b6f7827343b1637ca78caabddf890150a70089924f8cbeda306bd3", func := "coffer/cofferlaw05.TupleLimits", spec := "tupleLimits", inPlace := ["internal/abi.NoEscape", "internal/bytealg.MakeNoZero", "internal/bytealg.abigen_runtime_cmpstring"], apart := false, narrowed := true }
def TupleLimitsUptoSaid : Prop := tupleLimitsUptoRow.holds Try.pinned (OpenSpec.upto tupleLimitsSpec)

/-- 'cofferlaw05.TupleSizes', WHERE WHAT IT READS IS OF BULK AT MOST 1048576: true; the input reads as it did. -/
def tupleSizesUptoRow : OpenClaim := { program := "ytbohpjbcjnapfaa", sum := "9b605f8752b6f7827343b1637ca78caabddf890150a70089924f8cbeda306bd3", func := "coffer/cofferlaw05.TupleSizes", spec := "tupleSizes", inPlace := ["internal/abi.NoEscape", "internal/bytealg.MakeNoZero", "internal/bytealg.abigen_runtime_cmpstring"], apart := false, narrowed := true }
def TupleSizesUptoSaid : Prop := tupleSizesUptoRow.holds Try.pinned (OpenSpec.upto tupleSizesSpec)

/-- 'cofferlaw05.TupleApart', WHERE WHAT IT READS IS OF BULK AT MOST 1048576: true; the input reads as it did. -/
def tupleApartUptoRow : OpenClaim := { program := "ytbohpjbcjnapfaa", sum := "9b605f8752b6f7827343b1637ca78caabddf890150a70089924f8cbeda306bd3", func := "coffer/cofferlaw05.TupleApart", spec := "tupleApart", inPlace := ["internal/abi.NoEscape", "internal/bytealg.MakeNoZero", "internal/bytealg.abigen_runtime_cmpstring"], apart := false, narrowed := true }
def TupleApartUptoSaid : Prop := tupleApartUptoRow.holds Try.pinned (OpenSpec.upto tupleApartSpec)

end Rows
end Go.Proofs.Ytbohpjbcjnapfaa
