/-
  No cell of these rows narrows 'for every input' (looked for: loops, veiled, ifaces, maps, wideKeys, modest, calm, conditions, laid).
  DERIVED. THE GIVEN ROWS OF THIS SEAT. 6 by the template 'for every input the law returns true; each argument reads behind the call as it read before'; 0 by the template 'total and deterministic' (their statements: YtgijgemgghphbaaTotals.lean).
  GIVEN WITH THE SEED: the statements are not yours to turn. If you find one false, say at which input.
  Laid BY PROGRAM, IN A SANDBOX (cutbox-rows.mjs): the forced cells as the released guide's own fill.sh prints them over the translation a50035e5ae790f4d… (all of the seat's roots in one cut). By AI agents, Wed Nov 11 2026. No macro, syntax, notation, axiom, sorry.
-/
import Derived.Test.YtgijgemgghphbaaChecked
import GoSem.Claim
import GoSem.ClaimJoined
import GoSem.ClaimMapViews
import Derived.JoinedTies
import Derived.KernelRfl
namespace Go.Proofs.Ytgijgemgghphbaa
/- THE CELL 'sum', in the pinned program and in every row, IS THE sha256 OF THE DUMP (.gsa) THAT YtgijgemgghphbaaProg.lean LOADS. Nothing in Lean hashes anything: it is a label: what it is worth is what the hold of that sum in a sandbox is worth. -/
noncomputable def Try.pinned : Pinned := { name := "ytgijgemgghphbaa", sum := "a50035e5ae790f4de33bef84b1cc9f214c7b9164d857946dca4a3ff4fc8ecb66", checked := Try.checked }
namespace Rows
def none {H : Type} : Left H := { results := [], args := [] }

/-- 'cofferlaw12.NamesTexts': WHATEVER THE INPUT: true; the input reads as it did. -/
def namesTextsSpec : ChangeSpec := { name := "namesTexts", fn := fun _ => fun
  | [d1, d2, d3] => { results := [.lit (.bool true)], args := [d1, d2, d3] }
  | _ => none }
def namesTextsRow : OpenClaim := { program := "ytgijgemgghphbaa", sum := "a50035e5ae790f4de33bef84b1cc9f214c7b9164d857946dca4a3ff4fc8ecb66", func := "coffer/cofferlaw12.NamesTexts", spec := "namesTexts", apart := false }
def NamesTextsSaid : Prop := namesTextsRow.holds Try.pinned (OpenSpec.ofChange namesTextsSpec)

/-- ITS FALSE NEIGHBOUR: 'it returns false'. Refute it at one input. -/
def namesTextsWrong : ChangeSpec := { name := "namesTexts", fn := fun _ => fun
  | [d1, d2, d3] => { results := [.lit (.bool false)], args := [d1, d2, d3] }
  | _ => none }
def NamesTextsWrongFalsely : Prop := namesTextsRow.holds Try.pinned (OpenSpec.ofChange namesTextsWrong)

/-- 'cofferlaw12.NamesMetas': WHATEVER THE INPUT: true; the input reads as it did. -/
def namesMetasSpec : ChangeSpec := { name := "namesMetas", fn := fun _ => fun
  | [d] => { results := [.lit (.bool true)], args := [d] }
  | _ => none }
def namesMetasRow : OpenClaim := { program := "ytgijgemgghphbaa", sum := "a50035e5ae790f4de33bef84b1cc9f214c7b9164d857946dca4a3ff4fc8ecb66", func := "coffer/cofferlaw12.NamesMetas", spec := "namesMetas", apart := false }
def NamesMetasSaid : Prop := namesMetasRow.holds Try.pinned (OpenSpec.ofChange namesMetasSpec)

/-- ITS FALSE NEIGHBOUR: 'it returns false'. Refute it at one input. -/
def namesMetasWrong : ChangeSpec := { name := "namesMetas", fn := fun _ => fun
  | [d] => { results := [.lit (.bool false)], args := [d] }
  | _ => none }
def NamesMetasWrongFalsely : Prop := namesMetasRow.holds Try.pinned (OpenSpec.ofChange namesMetasWrong)

/-- 'cofferlaw12.NamesVersions': WHATEVER THE INPUT: true; the input reads as it did. -/
def namesVersionsSpec : ChangeSpec := { name := "namesVersions", fn := fun _ => fun
  | [d] => { results := [.lit (.bool true)], args := [d] }
  | _ => none }
def namesVersionsRow : OpenClaim := { program := "ytgijgemgghphbaa", sum := "a50035e5ae790f4de33bef84b1cc9f214c7b9164d857946dca4a3ff4fc8ecb66", func := "coffer/cofferlaw12.NamesVersions", spec := "namesVersions", apart := false }
def NamesVersionsSaid : Prop := namesVersionsRow.holds Try.pinned (OpenSpec.ofChange namesVersionsSpec)

/-- ITS FALSE NEIGHBOUR: 'it returns false'. Refute it at one input. -/
def namesVersionsWrong : ChangeSpec := { name := "namesVersions", fn := fun _ => fun
  | [d] => { results := [.lit (.bool false)], args := [d] }
  | _ => none }
def NamesVersionsWrongFalsely : Prop := namesVersionsRow.holds Try.pinned (OpenSpec.ofChange namesVersionsWrong)

/-- 'cofferlaw12.NamesBytes': WHATEVER THE INPUT: true; the input reads as it did. -/
def namesBytesSpec : ChangeSpec := { name := "namesBytes", fn := fun _ => fun
  | [d] => { results := [.lit (.bool true)], args := [d] }
  | _ => none }
def namesBytesRow : OpenClaim := { program := "ytgijgemgghphbaa", sum := "a50035e5ae790f4de33bef84b1cc9f214c7b9164d857946dca4a3ff4fc8ecb66", func := "coffer/cofferlaw12.NamesBytes", spec := "namesBytes", apart := false }
def NamesBytesSaid : Prop := namesBytesRow.holds Try.pinned (OpenSpec.ofChange namesBytesSpec)

/-- ITS FALSE NEIGHBOUR: 'it returns false'. Refute it at one input. -/
def namesBytesWrong : ChangeSpec := { name := "namesBytes", fn := fun _ => fun
  | [d] => { results := [.lit (.bool false)], args := [d] }
  | _ => none }
def NamesBytesWrongFalsely : Prop := namesBytesRow.holds Try.pinned (OpenSpec.ofChange namesBytesWrong)

/-- 'cofferlaw12.NamesLess': WHATEVER THE INPUT: true; the input reads as it did. -/
def namesLessSpec : ChangeSpec := { name := "namesLess", fn := fun _ => fun
  | [d1, d2] => { results := [.lit (.bool true)], args := [d1, d2] }
  | _ => none }
def namesLessRow : OpenClaim := { program := "ytgijgemgghphbaa", sum := "a50035e5ae790f4de33bef84b1cc9f214c7b9164d857946dca4a3ff4fc8ecb66", func := "coffer/cofferlaw12.NamesLess", spec := "namesLess", apart := false }
def NamesLessSaid : Prop := namesLessRow.holds Try.pinned (OpenSpec.ofChange namesLessSpec)

/-- ITS FALSE NEIGHBOUR: 'it returns false'. Refute it at one input. -/
def namesLessWrong : ChangeSpec := { name := "namesLess", fn := fun _ => fun
  | [d1, d2] => { results := [.lit (.bool false)], args := [d1, d2] }
  | _ => none }
def NamesLessWrongFalsely : Prop := namesLessRow.holds Try.pinned (OpenSpec.ofChange namesLessWrong)

/-- 'cofferlaw12.NamesSizes': WHATEVER THE INPUT: true; the input reads as it did. -/
def namesSizesSpec : ChangeSpec := { name := "namesSizes", fn := fun _ => fun
  | [d1, d2, d3] => { results := [.lit (.bool true)], args := [d1, d2, d3] }
  | _ => none }
def namesSizesRow : OpenClaim := { program := "ytgijgemgghphbaa", sum := "a50035e5ae790f4de33bef84b1cc9f214c7b9164d857946dca4a3ff4fc8ecb66", func := "coffer/cofferlaw12.NamesSizes", spec := "namesSizes", apart := false }
def NamesSizesSaid : Prop := namesSizesRow.holds Try.pinned (OpenSpec.ofChange namesSizesSpec)

/-- ITS FALSE NEIGHBOUR: 'it returns false'. Refute it at one input. -/
def namesSizesWrong : ChangeSpec := { name := "namesSizes", fn := fun _ => fun
  | [d1, d2, d3] => { results := [.lit (.bool false)], args := [d1, d2, d3] }
  | _ => none }
def NamesSizesWrongFalsely : Prop := namesSizesRow.holds Try.pinned (OpenSpec.ofChange namesSizesWrong)

/- THE SECOND FORM. 'bulk': how many values and letters a reading holds, each counted each time it is reached (what is shared counts as often as it is met; a slice's spare places count too). A statement '..UptoSaid' is the law's where the arguments, and the package variables that the reading takes, are together of bulk at most 1048576: NARROWER than '..Said'. Prove '..Said' where nothing that the law and all that it calls make is longer than what came in: it says more and counts as full. Else prove '..UptoSaid'. A law counts once. -/
mutual
def uptoBulk {H : Type} : DataW H → Nat
  | .lit (.string bytes) => bytes.length + 1
  | .lit _ => 1
  | .nil => 1
  | .ptr d => uptoBulk d + 1
  | .slice elems spare => uptoBulkAll elems + uptoBulkAll spare + 1
  | .agg parts => uptoBulkAll parts + 1
  | .iface _ d => uptoBulk d + 1
  | .map entries => uptoBulkEntries entries + 1
  | .held _ => 1
def uptoBulkAll {H : Type} : List (DataW H) → Nat
  | [] => 0
  | d :: r => uptoBulk d + uptoBulkAll r
def uptoBulkEntries {H : Type} : List (Lit × DataW H) → Nat
  | [] => 0
  | x :: r => uptoBulkEntry x + uptoBulkEntries r
def uptoBulkEntry {H : Type} : Lit × DataW H → Nat
  | (.string bytes, d) => bytes.length + uptoBulk d + 1
  | (_, d) => uptoBulk d + 1
 end
def uptoSmall : (H : Type) → List (DataW H) → Bool := fun _ ds => decide (uptoBulkAll ds ≤ 1048576)
def OpenSpec.upto (s : _root_.Go.ChangeSpec) : _root_.Go.OpenSpec := { _root_.Go.OpenSpec.ofChange s with cond := some uptoSmall }

/-- 'cofferlaw12.NamesTexts', WHERE WHAT IT READS IS OF BULK AT MOST 1048576: true; the input reads as it did. -/
def namesTextsUptoRow : OpenClaim := { program := "ytgijgemgghphbaa", sum := "a50035e5ae790f4de33bef84b1cc9f214c7b9164d857946dca4a3ff4fc8ecb66", func := "coffer/cofferlaw12.NamesTexts", spec := "namesTexts", apart := false, narrowed := true }
def NamesTextsUptoSaid : Prop := namesTextsUptoRow.holds Try.pinned (OpenSpec.upto namesTextsSpec)

/-- 'cofferlaw12.NamesMetas', WHERE WHAT IT READS IS OF BULK AT MOST 1048576: true; the input reads as it did. -/
def namesMetasUptoRow : OpenClaim := { program := "ytgijgemgghphbaa", sum := "a50035e5ae790f4de33bef84b1cc9f214c7b9164d857946dca4a3ff4fc8ecb66", func := "coffer/cofferlaw12.NamesMetas", spec := "namesMetas", apart := false, narrowed := true }
def NamesMetasUptoSaid : Prop := namesMetasUptoRow.holds Try.pinned (OpenSpec.upto namesMetasSpec)

/-- 'cofferlaw12.NamesVersions', WHERE WHAT IT READS IS OF BULK AT MOST 1048576: true; the input reads as it did. -/
def namesVersionsUptoRow : OpenClaim := { program := "ytgijgemgghphbaa", sum := "a50035e5ae790f4de33bef84b1cc9f214c7b9164d857946dca4a3ff4fc8ecb66", func := "coffer/cofferlaw12.NamesVersions", spec := "namesVersions", apart := false, narrowed := true }
def NamesVersionsUptoSaid : Prop := namesVersionsUptoRow.holds Try.pinned (OpenSpec.upto namesVersionsSpec)

/-- 'cofferlaw12.NamesBytes', WHERE WHAT IT READS IS OF BULK AT MOST 1048576: true; the input reads as it did. -/
def namesBytesUptoRow : OpenClaim := { program := "ytgijgemgghphbaa", sum := "a50035e5ae790f4de33bef84b1cc9f214c7b9164d857946dca4a3ff4fc8ecb66", func := "coffer/cofferlaw12.NamesBytes", spec := "namesBytes", apart := false, narrowed := true }
def NamesBytesUptoSaid : Prop := namesBytesUptoRow.holds Try.pinned (OpenSpec.upto namesBytesSpec)

/-- 'cofferlaw12.NamesLess', WHERE WHAT IT READS IS OF BULK AT MOST 1048576: true; the input reads as it did. -/
def namesLessUptoRow : OpenClaim := { program := "ytgijgemgghphbaa", sum := "a50035e5ae790f4de33bef84b1cc9f214c7b9164d857946dca4a3ff4fc8ecb66", func := "coffer/cofferlaw12.NamesLess", spec := "namesLess", apart := false, narrowed := true }
def NamesLessUptoSaid : Prop := namesLessUptoRow.holds Try.pinned (OpenSpec.upto namesLessSpec)

/-- 'cofferlaw12.NamesSizes', WHERE WHAT IT READS IS OF BULK AT MOST 1048576: true; the input reads as it did. -/
def namesSizesUptoRow : OpenClaim := { program := "ytgijgemgghphbaa", sum := "a50035e5ae790f4de33bef84b1cc9f214c7b9164d857946dca4a3ff4fc8ecb66", func := "coffer/cofferlaw12.NamesSizes", spec := "namesSizes", apart := false, narrowed := true }
def NamesSizesUptoSaid : Prop := namesSizesUptoRow.holds Try.pinned (OpenSpec.upto namesSizesSpec)

end Rows
end Go.Proofs.Ytgijgemgghphbaa
