/-
  No cell of these rows narrows 'for every input' (looked for: loops, veiled, ifaces, maps, wideKeys, modest, calm, conditions, laid).
  DERIVED. THE GIVEN ROWS OF THIS SEAT. 5 by the template 'for every input the law returns true; each argument reads behind the call as it read before'; 0 by the template 'total and deterministic' (their statements: YthpnppfpmhlkaaaTotals.lean).
  GIVEN WITH THE SEED: the statements are not yours to turn. If you find one false, say at which input.
  Laid BY PROGRAM, IN A SANDBOX (cutbox-rows.mjs): the forced cells as the released guide's own fill.sh prints them over the translation 3bb5d2f49789b5cc… (all of the seat's roots in one cut). By AI agents, Wed Nov 11 2026. No macro, syntax, notation, axiom, sorry.
-/
import Derived.Test.YthpnppfpmhlkaaaChecked
import GoSem.Claim
import GoSem.ClaimJoined
import GoSem.ClaimMapViews
import Derived.JoinedTies
import Derived.KernelRfl
namespace Go.Proofs.Ythpnppfpmhlkaaa
/- THE CELL 'sum', in the pinned program and in every row, IS THE sha256 OF THE DUMP (.gsa) THAT YthpnppfpmhlkaaaProg.lean LOADS. Nothing in Lean hashes anything: it is a label: what it is worth is what the hold of that sum in a sandbox is worth. -/
noncomputable def Try.pinned : Pinned := { name := "ythpnppfpmhlkaaa", sum := "3bb5d2f49789b5cc1820cfd1b48ce89a9e40596573ce732b44c2b50e1d59166e", checked := Try.checked }
namespace Rows
def none {H : Type} : Left H := { results := [], args := [] }

/-- 'cofferlaw03.MerkleRoots': WHATEVER THE INPUT: true; the input reads as it did. -/
def merkleRootsSpec : ChangeSpec := { name := "merkleRoots", fn := fun _ => fun
  | [d1, d2, d3, d4] => { results := [.lit (.bool true)], args := [d1, d2, d3, d4] }
  | _ => none }
def merkleRootsRow : OpenClaim := { program := "ythpnppfpmhlkaaa", sum := "3bb5d2f49789b5cc1820cfd1b48ce89a9e40596573ce732b44c2b50e1d59166e", func := "coffer/cofferlaw03.MerkleRoots", spec := "merkleRoots", apart := false }
def MerkleRootsSaid : Prop := merkleRootsRow.holds Try.pinned (OpenSpec.ofChange merkleRootsSpec)

/-- ITS FALSE NEIGHBOUR: 'it returns false'. Refute it at one input. -/
def merkleRootsWrong : ChangeSpec := { name := "merkleRoots", fn := fun _ => fun
  | [d1, d2, d3, d4] => { results := [.lit (.bool false)], args := [d1, d2, d3, d4] }
  | _ => none }
def MerkleRootsWrongFalsely : Prop := merkleRootsRow.holds Try.pinned (OpenSpec.ofChange merkleRootsWrong)

/-- 'cofferlaw03.MerklePaths': WHATEVER THE INPUT: true; the input reads as it did. -/
def merklePathsSpec : ChangeSpec := { name := "merklePaths", fn := fun _ => fun
  | [d1, d2, d3, d4, d5, d6] => { results := [.lit (.bool true)], args := [d1, d2, d3, d4, d5, d6] }
  | _ => none }
def merklePathsRow : OpenClaim := { program := "ythpnppfpmhlkaaa", sum := "3bb5d2f49789b5cc1820cfd1b48ce89a9e40596573ce732b44c2b50e1d59166e", func := "coffer/cofferlaw03.MerklePaths", spec := "merklePaths", apart := false }
def MerklePathsSaid : Prop := merklePathsRow.holds Try.pinned (OpenSpec.ofChange merklePathsSpec)

/-- ITS FALSE NEIGHBOUR: 'it returns false'. Refute it at one input. -/
def merklePathsWrong : ChangeSpec := { name := "merklePaths", fn := fun _ => fun
  | [d1, d2, d3, d4, d5, d6] => { results := [.lit (.bool false)], args := [d1, d2, d3, d4, d5, d6] }
  | _ => none }
def MerklePathsWrongFalsely : Prop := merklePathsRow.holds Try.pinned (OpenSpec.ofChange merklePathsWrong)

/-- 'cofferlaw03.MerkleHolds': WHATEVER THE INPUT: true; the input reads as it did. -/
def merkleHoldsSpec : ChangeSpec := { name := "merkleHolds", fn := fun _ => fun
  | [d1, d2] => { results := [.lit (.bool true)], args := [d1, d2] }
  | _ => none }
def merkleHoldsRow : OpenClaim := { program := "ythpnppfpmhlkaaa", sum := "3bb5d2f49789b5cc1820cfd1b48ce89a9e40596573ce732b44c2b50e1d59166e", func := "coffer/cofferlaw03.MerkleHolds", spec := "merkleHolds", apart := false }
def MerkleHoldsSaid : Prop := merkleHoldsRow.holds Try.pinned (OpenSpec.ofChange merkleHoldsSpec)

/-- ITS FALSE NEIGHBOUR: 'it returns false'. Refute it at one input. -/
def merkleHoldsWrong : ChangeSpec := { name := "merkleHolds", fn := fun _ => fun
  | [d1, d2] => { results := [.lit (.bool false)], args := [d1, d2] }
  | _ => none }
def MerkleHoldsWrongFalsely : Prop := merkleHoldsRow.holds Try.pinned (OpenSpec.ofChange merkleHoldsWrong)

/-- 'cofferlaw03.MerkleSplits': WHATEVER THE INPUT: true; the input reads as it did. -/
def merkleSplitsSpec : ChangeSpec := { name := "merkleSplits", fn := fun _ => fun
  | [d1, d2] => { results := [.lit (.bool true)], args := [d1, d2] }
  | _ => none }
def merkleSplitsRow : OpenClaim := { program := "ythpnppfpmhlkaaa", sum := "3bb5d2f49789b5cc1820cfd1b48ce89a9e40596573ce732b44c2b50e1d59166e", func := "coffer/cofferlaw03.MerkleSplits", spec := "merkleSplits", apart := false }
def MerkleSplitsSaid : Prop := merkleSplitsRow.holds Try.pinned (OpenSpec.ofChange merkleSplitsSpec)

/-- ITS FALSE NEIGHBOUR: 'it returns false'. Refute it at one input. -/
def merkleSplitsWrong : ChangeSpec := { name := "merkleSplits", fn := fun _ => fun
  | [d1, d2] => { results := [.lit (.bool false)], args := [d1, d2] }
  | _ => none }
def MerkleSplitsWrongFalsely : Prop := merkleSplitsRow.holds Try.pinned (OpenSpec.ofChange merkleSplitsWrong)

/-- 'cofferlaw03.MerkleApart': WHATEVER THE INPUT: true; the input reads as it did. -/
def merkleApartSpec : ChangeSpec := { name := "merkleApart", fn := fun _ => fun
  | [d1, d2] => { results := [.lit (.bool true)], args := [d1, d2] }
  | _ => none }
def merkleApartRow : OpenClaim := { program := "ythpnppfpmhlkaaa", sum := "3bb5d2f49789b5cc1820cfd1b48ce89a9e40596573ce732b44c2b50e1d59166e", func := "coffer/cofferlaw03.MerkleApart", spec := "merkleApart", apart := false }
def MerkleApartSaid : Prop := merkleApartRow.holds Try.pinned (OpenSpec.ofChange merkleApartSpec)

/-- ITS FALSE NEIGHBOUR: 'it returns false'. Refute it at one input. -/
def merkleApartWrong : ChangeSpec := { name := "merkleApart", fn := fun _ => fun
  | [d1, d2] => { results := [.lit (.bool false)], args := [d1, d2] }
  | _ => none }
def MerkleApartWrongFalsely : Prop := merkleApartRow.holds Try.pinned (OpenSpec.ofChange merkleApartWrong)

/- THE SECOND FORM. 'bulk': how many values and letters a reading holds, each counted each time it is reached (what is shared counts as often as it is met; a slice's spare places count too). A statement '..UptoSaid' is the law's where the arguments, and the package variables that the reading takes, are together of bulk at most 1048576: NARROWER than '..Said'. Prove '..Said' where nothing that the law and all that it calls make is longer than what came in: it says more and counts as full. Else prove '..UptoSaid'. A law counts once. -/
mutual
def uptoBulk {H : Type} : DataW H → Nat
  | .lit (.string bytes) => bytes.length + 1
  | .lit _ => 1
  | .nil => 1
  | .ptr d => uptoBulk d + 1
  | .slice elems spare => uptoBulkAll elems + uptoBulkAll spare + 1
  | .agg parts => uptoBulkAll parts + 1
  | .iface _ d => uptoBulk d + 1
  | .map entries => uptoBulkEntries entries + 1
  | .held _ => 1
def uptoBulkAll {H : Type} : List (DataW H) → Nat
  | [] => 0
  | d :: r => uptoBulk d + uptoBulkAll r
def uptoBulkEntries {H : Type} : List (Lit × DataW H) → Nat
  | [] => 0
  | x :: r => uptoBulkEntry x + uptoBulkEntries r
def uptoBulkEntry {H : Type} : Lit × DataW H → Nat
  | (.string bytes, d) => bytes.length + uptoBulk d + 1
  | (_, d) => uptoBulk d + 1
 end
def uptoSmall : (H : Type) → List (DataW H) → Bool := fun _ ds => decide (uptoBulkAll ds ≤ 1048576)
def OpenSpec.upto (s : _root_.Go.ChangeSpec) : _root_.Go.OpenSpec := { _root_.Go.OpenSpec.ofChange s with cond := some uptoSmall }

/-- 'cofferlaw03.MerkleRoots', WHERE WHAT IT READS IS OF BULK AT MOST 1048576: true; the input reads as it did. -/
def merkleRootsUptoRow : OpenClaim := { program := "ythpnppfpmhlkaaa", sum := "3bb5d2f49789b5cc1820cfd1b48ce89a9e40596573ce732b44c2b50e1d59166e", func := "coffer/cofferlaw03.MerkleRoots", spec := "merkleRoots", apart := false, narrowed := true }
def MerkleRootsUptoSaid : Prop := merkleRootsUptoRow.holds Try.pinned (OpenSpec.upto merkleRootsSpec)

/-- 'cofferlaw03.MerklePaths', WHERE WHAT IT READS IS OF BULK AT MOST 1048576: true; the input reads as it did. -/
def merklePathsUptoRow : OpenClaim := { program := "ythpnppfpmhlkaaa", sum := "3bb5d2f49789b5cc1820cfd1b48ce89a9e40596573ce732b44c2b50e1d59166e", func := "coffer/cofferlaw03.MerklePaths", spec := "merklePaths", apart := false, narrowed := true }
def MerklePathsUptoSaid : Prop := merklePathsUptoRow.holds Try.pinned (OpenSpec.upto merklePathsSpec)

/-- 'cofferlaw03.MerkleHolds', WHERE WHAT IT READS IS OF BULK AT MOST 1048576: true; the input reads as it did. -/
def merkleHoldsUptoRow : OpenClaim := { program := "ythpnppfpmhlkaaa", sum := "3bb5d2f49789b5cc1820cfd1b48ce89a9e40596573ce732b44c2b50e1d59166e", func := "coffer/cofferlaw03.MerkleHolds", spec := "merkleHolds", apart := false, narrowed := true }
def MerkleHoldsUptoSaid : Prop := merkleHoldsUptoRow.holds Try.pinned (OpenSpec.upto merkleHoldsSpec)

/-- 'cofferlaw03.MerkleSplits', WHERE WHAT IT READS IS OF BULK AT MOST 1048576: true; the input reads as it did. -/
def merkleSplitsUptoRow : OpenClaim := { program := "ythpnppfpmhlkaaa", sum := "3bb5d2f49789b5cc1820cfd1b48ce89a9e40596573ce732b44c2b50e1d59166e", func := "coffer/cofferlaw03.MerkleSplits", spec := "merkleSplits", apart := false, narrowed := true }
def MerkleSplitsUptoSaid : Prop := merkleSplitsUptoRow.holds Try.pinned (OpenSpec.upto merkleSplitsSpec)

/-- 'cofferlaw03.MerkleApart', WHERE WHAT IT READS IS OF BULK AT MOST 1048576: true; the input reads as it did. -/
def merkleApartUptoRow : OpenClaim := { program := "ythpnppfpmhlkaaa", sum := "3bb5d2f49789b5cc1820cfd1b48ce89a9e40596573ce732b44c2b50e1d59166e", func := "coffer/cofferlaw03.MerkleApart", spec := "merkleApart", apart := false, narrowed := true }
def MerkleApartUptoSaid : Prop := merkleApartUptoRow.holds Try.pinned (OpenSpec.upto merkleApartSpec)

end Rows
end Go.Proofs.Ythpnppfpmhlkaaa
