/-
  No cell of these rows narrows 'for every input' (looked for: loops, veiled, ifaces, maps, wideKeys, modest, calm, conditions, laid).
  DERIVED. THE GIVEN ROWS OF THIS SEAT. 5 by the template 'for every input the law returns true; each argument reads behind the call as it read before'; 0 by the template 'total and deterministic' (their statements: YtmgiolijjheodaaTotals.lean).
  GIVEN WITH THE SEED: the statements are not yours to turn. If you find one false, say at which input.
  Laid BY PROGRAM, IN A SANDBOX (cutbox-rows.mjs): the forced cells as the released guide's own fill.sh prints them over the translation d6c5440179e7f447… (all of the seat's roots in one cut). By AI agents, Wed Nov 11 2026. No macro, syntax, notation, axiom, sorry.
-/
import Derived.Test.YtmgiolijjheodaaChecked
import GoSem.Claim
import GoSem.ClaimJoined
import GoSem.ClaimMapViews
import Derived.JoinedTies
import Derived.KernelRfl
namespace Go.Proofs.Ytmgiolijjheodaa
/- THE CELL 'sum', in the pinned program and in every row, IS THE sha256 OF THE DUMP (.gsa) THAT YtmgiolijjheodaaProg.lean LOADS. Nothing in Lean hashes anything: it is a label: what it is worth is what the hold of that sum in a sandbox is worth. -/
noncomputable def Try.pinned : Pinned := { name := "ytmgiolijjheodaa", sum := "d6c5440179e7f4472b65f5af5a140f48bd444c34e541535b7924871cd9c7d331", checked := Try.checked }
namespace Rows
def none {H : Type} : Left H := { results := [], args := [] }

/-- 'cofferlaw14.StackPushes': WHATEVER THE INPUT: true; the input reads as it did. -/
def stackPushesSpec : ChangeSpec := { name := "stackPushes", fn := fun _ => fun
  | [d1, d2] => { results := [.lit (.bool true)], args := [d1, d2] }
  | _ => none }
def stackPushesRow : OpenClaim := { program := "ytmgiolijjheodaa", sum := "d6c5440179e7f4472b65f5af5a140f48bd444c34e541535b7924871cd9c7d331", func := "coffer/cofferlaw14.StackPushes", spec := "stackPushes", unfollowed := true, recurses := true, apart := false }
def StackPushesSaid : Prop := stackPushesRow.holds Try.pinned (OpenSpec.ofChange stackPushesSpec)

/-- ITS FALSE NEIGHBOUR: 'it returns false'. Refute it at one input. -/
def stackPushesWrong : ChangeSpec := { name := "stackPushes", fn := fun _ => fun
  | [d1, d2] => { results := [.lit (.bool false)], args := [d1, d2] }
  | _ => none }
def StackPushesWrongFalsely : Prop := stackPushesRow.holds Try.pinned (OpenSpec.ofChange stackPushesWrong)

/-- 'cofferlaw14.StackParts': WHATEVER THE INPUT: true; the input reads as it did. -/
def stackPartsSpec : ChangeSpec := { name := "stackParts", fn := fun _ => fun
  | [d1, d2, d3, d4, d5] => { results := [.lit (.bool true)], args := [d1, d2, d3, d4, d5] }
  | _ => none }
def stackPartsRow : OpenClaim := { program := "ytmgiolijjheodaa", sum := "d6c5440179e7f4472b65f5af5a140f48bd444c34e541535b7924871cd9c7d331", func := "coffer/cofferlaw14.StackParts", spec := "stackParts", unfollowed := true, recurses := true, apart := false }
def StackPartsSaid : Prop := stackPartsRow.holds Try.pinned (OpenSpec.ofChange stackPartsSpec)

/-- ITS FALSE NEIGHBOUR: 'it returns false'. Refute it at one input. -/
def stackPartsWrong : ChangeSpec := { name := "stackParts", fn := fun _ => fun
  | [d1, d2, d3, d4, d5] => { results := [.lit (.bool false)], args := [d1, d2, d3, d4, d5] }
  | _ => none }
def StackPartsWrongFalsely : Prop := stackPartsRow.holds Try.pinned (OpenSpec.ofChange stackPartsWrong)

/-- 'cofferlaw14.StackApart': WHATEVER THE INPUT: true; the input reads as it did. -/
def stackApartSpec : ChangeSpec := { name := "stackApart", fn := fun _ => fun
  | [d1, d2, d3] => { results := [.lit (.bool true)], args := [d1, d2, d3] }
  | _ => none }
def stackApartRow : OpenClaim := { program := "ytmgiolijjheodaa", sum := "d6c5440179e7f4472b65f5af5a140f48bd444c34e541535b7924871cd9c7d331", func := "coffer/cofferlaw14.StackApart", spec := "stackApart", unfollowed := true, recurses := true, apart := false }
def StackApartSaid : Prop := stackApartRow.holds Try.pinned (OpenSpec.ofChange stackApartSpec)

/-- ITS FALSE NEIGHBOUR: 'it returns false'. Refute it at one input. -/
def stackApartWrong : ChangeSpec := { name := "stackApart", fn := fun _ => fun
  | [d1, d2, d3] => { results := [.lit (.bool false)], args := [d1, d2, d3] }
  | _ => none }
def StackApartWrongFalsely : Prop := stackApartRow.holds Try.pinned (OpenSpec.ofChange stackApartWrong)

/-- 'cofferlaw14.StackAsks': WHATEVER THE INPUT: true; the input reads as it did. -/
def stackAsksSpec : ChangeSpec := { name := "stackAsks", fn := fun _ => fun
  | [d1, d2, d3] => { results := [.lit (.bool true)], args := [d1, d2, d3] }
  | _ => none }
def stackAsksRow : OpenClaim := { program := "ytmgiolijjheodaa", sum := "d6c5440179e7f4472b65f5af5a140f48bd444c34e541535b7924871cd9c7d331", func := "coffer/cofferlaw14.StackAsks", spec := "stackAsks", unfollowed := true, recurses := true, apart := false }
def StackAsksSaid : Prop := stackAsksRow.holds Try.pinned (OpenSpec.ofChange stackAsksSpec)

/-- ITS FALSE NEIGHBOUR: 'it returns false'. Refute it at one input. -/
def stackAsksWrong : ChangeSpec := { name := "stackAsks", fn := fun _ => fun
  | [d1, d2, d3] => { results := [.lit (.bool false)], args := [d1, d2, d3] }
  | _ => none }
def StackAsksWrongFalsely : Prop := stackAsksRow.holds Try.pinned (OpenSpec.ofChange stackAsksWrong)

/-- 'cofferlaw14.StackGrows': WHATEVER THE INPUT: true; the input reads as it did. -/
def stackGrowsSpec : ChangeSpec := { name := "stackGrows", fn := fun _ => fun
  | [d1, d2] => { results := [.lit (.bool true)], args := [d1, d2] }
  | _ => none }
def stackGrowsRow : OpenClaim := { program := "ytmgiolijjheodaa", sum := "d6c5440179e7f4472b65f5af5a140f48bd444c34e541535b7924871cd9c7d331", func := "coffer/cofferlaw14.StackGrows", spec := "stackGrows", unfollowed := true, recurses := true, apart := false }
def StackGrowsSaid : Prop := stackGrowsRow.holds Try.pinned (OpenSpec.ofChange stackGrowsSpec)

/-- ITS FALSE NEIGHBOUR: 'it returns false'. Refute it at one input. -/
def stackGrowsWrong : ChangeSpec := { name := "stackGrows", fn := fun _ => fun
  | [d1, d2] => { results := [.lit (.bool false)], args := [d1, d2] }
  | _ => none }
def StackGrowsWrongFalsely : Prop := stackGrowsRow.holds Try.pinned (OpenSpec.ofChange stackGrowsWrong)

/- THE SECOND FORM. 'bulk': how many values and letters a reading holds, each counted each time it is reached (what is shared counts as often as it is met; a slice's spare places count too). A statement '..UptoSaid' is the law's where the arguments, and the package variables that the reading takes, are together of bulk at most 1048576: NARROWER than '..Said'. Prove '..Said' where nothing that the law and all that it calls make is longer than what came in: it says more and counts as full. Else prove '..UptoSaid'. A law counts once. -/
mutual
def uptoBulk {H : Type} : DataW H → Nat
  | .lit (.string bytes) => bytes.length + 1
  | .lit _ => 1
  | .nil => 1
  | .ptr d => uptoBulk d + 1
  | .slice elems spare => uptoBulkAll elems + uptoBulkAll spare + 1
  | .agg parts => uptoBulkAll parts + 1
  | .iface _ d => uptoBulk d + 1
  | .map entries => uptoBulkEntries entries + 1
  | .held _ => 1
def uptoBulkAll {H : Type} : List (DataW H) → Nat
  | [] => 0
  | d :: r => uptoBulk d + uptoBulkAll r
def uptoBulkEntries {H : Type} : List (Lit × DataW H) → Nat
  | [] => 0
  | x :: r => uptoBulkEntry x + uptoBulkEntries r
def uptoBulkEntry {H : Type} : Lit × DataW H → Nat
  | (.string bytes, d) => bytes.length + uptoBulk d + 1
  | (_, d) => uptoBulk d + 1
 end
def uptoSmall : (H : Type) → List (DataW H) → Bool := fun _ ds => decide (uptoBulkAll ds ≤ 1048576)
def OpenSpec.upto (s : _root_.Go.ChangeSpec) : _root_.Go.OpenSpec := { _root_.Go.OpenSpec.ofChange s with cond := some uptoSmall }

/-- 'cofferlaw14.StackPushes', WHERE WHAT IT READS IS OF BULK AT MOST 1048576: true; the input reads as it did. -/
def stackPushesUptoRow : OpenClaim := { program := "ytmgiolijjheodaa", sum := "d6c5440179e7f4472b65f5af5a140f48bd444c34e541535b7924871cd9c7d331", func := "coffer/cofferlaw14.StackPushes", spec := "stackPushes", unfollowed := true, recurses := true, apart := false, narrowed := true }
def StackPushesUptoSaid : Prop := stackPushesUptoRow.holds Try.pinned (OpenSpec.upto stackPushesSpec)

/-- 'cofferlaw14.StackParts', WHERE WHAT IT READS IS OF BULK AT MOST 1048576: true; the input reads as it did. -/
def stackPartsUptoRow : OpenClaim := { program := "ytmgiolijjheodaa", sum := "d6c5440179e7f4472b65f5af5a140f48bd444c34e541535b7924871cd9c7d331", func := "coffer/cofferlaw14.StackParts", spec := "stackParts", unfollowed := true, recurses := true, apart := false, narrowed := true }
def StackPartsUptoSaid : Prop := stackPartsUptoRow.holds Try.pinned (OpenSpec.upto stackPartsSpec)

/-- 'cofferlaw14.StackApart', WHERE WHAT IT READS IS OF BULK AT MOST 1048576: true; the input reads as it did. -/
def stackApartUptoRow : OpenClaim := { program := "ytmgiolijjheodaa", sum := "d6c5440179e7f4472b65f5af5a140f48bd444c34e541535b7924871cd9c7d331", func := "coffer/cofferlaw14.StackApart", spec := "stackApart", unfollowed := true, recurses := true, apart := false, narrowed := true }
def StackApartUptoSaid : Prop := stackApartUptoRow.holds Try.pinned (OpenSpec.upto stackApartSpec)

/-- 'cofferlaw14.StackAsks', WHERE WHAT IT READS IS OF BULK AT MOST 1048576: true; the input reads as it did. -/
def stackAsksUptoRow : OpenClaim := { program := "ytmgiolijjheodaa", sum := "d6c5440179e7f4472b65f5af5a140f48bd444c34e541535b7924871cd9c7d331", func := "coffer/cofferlaw14.StackAsks", spec := "stackAsks", unfollowed := true, recurses := true, apart := false, narrowed := true }
def StackAsksUptoSaid : Prop := stackAsksUptoRow.holds Try.pinned (OpenSpec.upto stackAsksSpec)

/-- 'cofferlaw14.StackGrows', WHERE WHAT IT READS IS OF BULK AT MOST 1048576: true; the input reads as it did. -/
def stackGrowsUptoRow : OpenClaim := { program := "ytmgiolijjheodaa", sum := "d6c5440179e7f4472b65f5af5a140f48bd444c34e541535b7924871cd9c7d331", func := "coffer/cofferlaw14.StackGrows", spec := "stackGrows", unfollowed := true, recurses := true, apart := false, narrowed := true }
def StackGrowsUptoSaid : Prop := stackGrowsUptoRow.holds Try.pinned (OpenSpec.upto stackGrowsSpec)

end Rows
end Go.Proofs.Ytmgiolijjheodaa
