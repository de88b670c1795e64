/-
  No cell of these rows narrows 'for every input' (looked for: loops, veiled, ifaces, maps, wideKeys, modest, calm, conditions, laid).
  DERIVED. THE GIVEN ROWS OF THIS SEAT. 5 by the template 'for every input the law returns true; each argument reads behind the call as it read before'; 0 by the template 'total and deterministic' (their statements: YtdhkcklgnnilfaaTotals.lean).
  GIVEN WITH THE SEED: the statements are not yours to turn. If you find one false, say at which input.
  Laid BY PROGRAM, IN A SANDBOX (cutbox-rows.mjs): the forced cells as the released guide's own fill.sh prints them over the translation 7b4d2e07bd95f497… (all of the seat's roots in one cut). By AI agents, Wed Nov 11 2026. No macro, syntax, notation, axiom, sorry.
-/
import Derived.Test.YtdhkcklgnnilfaaChecked
import GoSem.Claim
import GoSem.ClaimJoined
import GoSem.ClaimMapViews
import Derived.JoinedTies
import Derived.KernelRfl
namespace Go.Proofs.Ytdhkcklgnnilfaa
/- THE CELL 'sum', in the pinned program and in every row, IS THE sha256 OF THE DUMP (.gsa) THAT YtdhkcklgnnilfaaProg.lean LOADS. Nothing in Lean hashes anything: it is a label: what it is worth is what the hold of that sum in a sandbox is worth. -/
noncomputable def Try.pinned : Pinned := { name := "ytdhkcklgnnilfaa", sum := "7b4d2e07bd95f497fc07143f2da0ef57a91076f9c9d9c58efaa608335870cd57", checked := Try.checked }
namespace Rows
def none {H : Type} : Left H := { results := [], args := [] }

/-- 'cofferlaw13.VersionWrites': WHATEVER THE INPUT: true; the input reads as it did. -/
def versionWritesSpec : ChangeSpec := { name := "versionWrites", fn := fun _ => fun
  | [d] => { results := [.lit (.bool true)], args := [d] }
  | _ => none }
def versionWritesRow : OpenClaim := { program := "ytdhkcklgnnilfaa", sum := "7b4d2e07bd95f497fc07143f2da0ef57a91076f9c9d9c58efaa608335870cd57", func := "coffer/cofferlaw13.VersionWrites", spec := "versionWrites", apart := false }
def VersionWritesSaid : Prop := versionWritesRow.holds Try.pinned (OpenSpec.ofChange versionWritesSpec)

/-- ITS FALSE NEIGHBOUR: 'it returns false'. Refute it at one input. -/
def versionWritesWrong : ChangeSpec := { name := "versionWrites", fn := fun _ => fun
  | [d] => { results := [.lit (.bool false)], args := [d] }
  | _ => none }
def VersionWritesWrongFalsely : Prop := versionWritesRow.holds Try.pinned (OpenSpec.ofChange versionWritesWrong)

/-- 'cofferlaw13.VersionReads': WHATEVER THE INPUT: true; the input reads as it did. -/
def versionReadsSpec : ChangeSpec := { name := "versionReads", fn := fun _ => fun
  | [d] => { results := [.lit (.bool true)], args := [d] }
  | _ => none }
def versionReadsRow : OpenClaim := { program := "ytdhkcklgnnilfaa", sum := "7b4d2e07bd95f497fc07143f2da0ef57a91076f9c9d9c58efaa608335870cd57", func := "coffer/cofferlaw13.VersionReads", spec := "versionReads", apart := false }
def VersionReadsSaid : Prop := versionReadsRow.holds Try.pinned (OpenSpec.ofChange versionReadsSpec)

/-- ITS FALSE NEIGHBOUR: 'it returns false'. Refute it at one input. -/
def versionReadsWrong : ChangeSpec := { name := "versionReads", fn := fun _ => fun
  | [d] => { results := [.lit (.bool false)], args := [d] }
  | _ => none }
def VersionReadsWrongFalsely : Prop := versionReadsRow.holds Try.pinned (OpenSpec.ofChange versionReadsWrong)

/-- 'cofferlaw13.VersionBack': WHATEVER THE INPUT: true; the input reads as it did. -/
def versionBackSpec : ChangeSpec := { name := "versionBack", fn := fun _ => fun
  | [d1, d2, d3] => { results := [.lit (.bool true)], args := [d1, d2, d3] }
  | _ => none }
def versionBackRow : OpenClaim := { program := "ytdhkcklgnnilfaa", sum := "7b4d2e07bd95f497fc07143f2da0ef57a91076f9c9d9c58efaa608335870cd57", func := "coffer/cofferlaw13.VersionBack", spec := "versionBack", apart := false }
def VersionBackSaid : Prop := versionBackRow.holds Try.pinned (OpenSpec.ofChange versionBackSpec)

/-- ITS FALSE NEIGHBOUR: 'it returns false'. Refute it at one input. -/
def versionBackWrong : ChangeSpec := { name := "versionBack", fn := fun _ => fun
  | [d1, d2, d3] => { results := [.lit (.bool false)], args := [d1, d2, d3] }
  | _ => none }
def VersionBackWrongFalsely : Prop := versionBackRow.holds Try.pinned (OpenSpec.ofChange versionBackWrong)

/-- 'cofferlaw13.VersionRight': WHATEVER THE INPUT: true; the input reads as it did. -/
def versionRightSpec : ChangeSpec := { name := "versionRight", fn := fun _ => fun
  | [d1, d2, d3, d4, d5] => { results := [.lit (.bool true)], args := [d1, d2, d3, d4, d5] }
  | _ => none }
def versionRightRow : OpenClaim := { program := "ytdhkcklgnnilfaa", sum := "7b4d2e07bd95f497fc07143f2da0ef57a91076f9c9d9c58efaa608335870cd57", func := "coffer/cofferlaw13.VersionRight", spec := "versionRight", apart := false }
def VersionRightSaid : Prop := versionRightRow.holds Try.pinned (OpenSpec.ofChange versionRightSpec)

/-- ITS FALSE NEIGHBOUR: 'it returns false'. Refute it at one input. -/
def versionRightWrong : ChangeSpec := { name := "versionRight", fn := fun _ => fun
  | [d1, d2, d3, d4, d5] => { results := [.lit (.bool false)], args := [d1, d2, d3, d4, d5] }
  | _ => none }
def VersionRightWrongFalsely : Prop := versionRightRow.holds Try.pinned (OpenSpec.ofChange versionRightWrong)

/-- 'cofferlaw13.VersionApart': WHATEVER THE INPUT: true; the input reads as it did. -/
def versionApartSpec : ChangeSpec := { name := "versionApart", fn := fun _ => fun
  | [d1, d2] => { results := [.lit (.bool true)], args := [d1, d2] }
  | _ => none }
def versionApartRow : OpenClaim := { program := "ytdhkcklgnnilfaa", sum := "7b4d2e07bd95f497fc07143f2da0ef57a91076f9c9d9c58efaa608335870cd57", func := "coffer/cofferlaw13.VersionApart", spec := "versionApart", apart := false }
def VersionApartSaid : Prop := versionApartRow.holds Try.pinned (OpenSpec.ofChange versionApartSpec)

/-- ITS FALSE NEIGHBOUR: 'it returns false'. Refute it at one input. -/
def versionApartWrong : ChangeSpec := { name := "versionApart", fn := fun _ => fun
  | [d1, d2] => { results := [.lit (.bool false)], args := [d1, d2] }
  | _ => none }
def VersionApartWrongFalsely : Prop := versionApartRow.holds Try.pinned (OpenSpec.ofChange versionApartWrong)

/- THE SECOND FORM. 'bulk': how many values and letters a reading holds, each counted each time it is reached (what is shared counts as often as it is met; a slice's spare places count too). A statement '..UptoSaid' is the law's where the arguments, and the package variables that the reading takes, are together of bulk at most 1048576: NARROWER than '..Said'. Prove '..Said' where nothing that the law and all that it calls make is longer than what came in: it says more and counts as full. Else prove '..UptoSaid'. A law counts once. -/
mutual
def uptoBulk {H : Type} : DataW H → Nat
  | .lit (.string bytes) => bytes.length + 1
  | .lit _ => 1
  | .nil => 1
  | .ptr d => uptoBulk d + 1
  | .slice elems spare => uptoBulkAll elems + uptoBulkAll spare + 1
  | .agg parts => uptoBulkAll parts + 1
  | .iface _ d => uptoBulk d + 1
  | .map entries => uptoBulkEntries entries + 1
  | .held _ => 1
def uptoBulkAll {H : Type} : List (DataW H) → Nat
  | [] => 0
  | d :: r => uptoBulk d + uptoBulkAll r
def uptoBulkEntries {H : Type} : List (Lit × DataW H) → Nat
  | [] => 0
  | x :: r => uptoBulkEntry x + uptoBulkEntries r
def uptoBulkEntry {H : Type} : Lit × DataW H → Nat
  | (.string bytes, d) => bytes.length + uptoBulk d + 1
  | (_, d) => uptoBulk d + 1
 end
def uptoSmall : (H : Type) → List (DataW H) → Bool := fun _ ds => decide (uptoBulkAll ds ≤ 1048576)
def OpenSpec.upto (s : _root_.Go.ChangeSpec) : _root_.Go.OpenSpec := { _root_.Go.OpenSpec.ofChange s with cond := some uptoSmall }

/-- 'cofferlaw13.VersionWrites', WHERE WHAT IT READS IS OF BULK AT MOST 1048576: true; the input reads as it did. -/
def versionWritesUptoRow : OpenClaim := { program := "ytdhkcklgnnilfaa", sum := "7b4d2e07bd95f497fc07143f2da0ef57a91076f9c9d9c58efaa608335870cd57", func := "coffer/cofferlaw13.VersionWrites", spec := "versionWrites", apart := false, narrowed := true }
def VersionWritesUptoSaid : Prop := versionWritesUptoRow.holds Try.pinned (OpenSpec.upto versionWritesSpec)

/-- 'cofferlaw13.VersionReads', WHERE WHAT IT READS IS OF BULK AT MOST 1048576: true; the input reads as it did. -/
def versionReadsUptoRow : OpenClaim := { program := "ytdhkcklgnnilfaa", sum := "7b4d2e07bd95f497fc07143f2da0ef57a91076f9c9d9c58efaa608335870cd57", func := "coffer/cofferlaw13.VersionReads", spec := "versionReads", apart := false, narrowed := true }
def VersionReadsUptoSaid : Prop := versionReadsUptoRow.holds Try.pinned (OpenSpec.upto versionReadsSpec)

/-- 'cofferlaw13.VersionBack', WHERE WHAT IT READS IS OF BULK AT MOST 1048576: true; the input reads as it did. -/
def versionBackUptoRow : OpenClaim := { program := "ytdhkcklgnnilfaa", sum := "7b4d2e07bd95f497fc07143f2da0ef57a91076f9c9d9c58efaa608335870cd57", func := "coffer/cofferlaw13.VersionBack", spec := "versionBack", apart := false, narrowed := true }
def VersionBackUptoSaid : Prop := versionBackUptoRow.holds Try.pinned (OpenSpec.upto versionBackSpec)

/-- 'cofferlaw13.VersionRight', WHERE WHAT IT READS IS OF BULK AT MOST 1048576: true; the input reads as it did. -/
def versionRightUptoRow : OpenClaim := { program := "ytdhkcklgnnilfaa", sum := "7b4d2e07bd95f497fc07143f2da0ef57a91076f9c9d9c58efaa608335870cd57", func := "coffer/cofferlaw13.VersionRight", spec := "versionRight", apart := false, narrowed := true }
def VersionRightUptoSaid : Prop := versionRightUptoRow.holds Try.pinned (OpenSpec.upto versionRightSpec)

/-- 'cofferlaw13.VersionApart', WHERE WHAT IT READS IS OF BULK AT MOST 1048576: true; the input reads as it did. -/
def versionApartUptoRow : OpenClaim := { program := "ytdhkcklgnnilfaa", sum := "7b4d2e07bd95f497fc07143f2da0ef57a91076f9c9d9c58efaa608335870cd57", func := "coffer/cofferlaw13.VersionApart", spec := "versionApart", apart := false, narrowed := true }
def VersionApartUptoSaid : Prop := versionApartUptoRow.holds Try.pinned (OpenSpec.upto versionApartSpec)

end Rows
end Go.Proofs.Ytdhkcklgnnilfaa
