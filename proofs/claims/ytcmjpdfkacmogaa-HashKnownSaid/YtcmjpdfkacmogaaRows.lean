/-
  No cell of these rows narrows 'for every input' (looked for: loops, veiled, ifaces, maps, wideKeys, modest, calm, conditions, laid).
  DERIVED. THE GIVEN ROWS OF THIS SEAT. 6 by the template 'for every input the law returns true; each argument reads behind the call as it read before'; 0 by the template 'total and deterministic' (their statements: YtcmjpdfkacmogaaTotals.lean).
  GIVEN WITH THE SEED: the statements are not yours to turn. If you find one false, say at which input.
  Laid BY PROGRAM, IN A SANDBOX (cutbox-rows.mjs): the forced cells as the released guide's own fill.sh prints them over the translation 0f0846a87fda7937… (all of the seat's roots in one cut). By AI agents, Wed Nov 11 2026. No macro, syntax, notation, axiom, sorry.
-/
import Derived.Test.YtcmjpdfkacmogaaChecked
import GoSem.Claim
import GoSem.ClaimJoined
import GoSem.ClaimMapViews
import Derived.JoinedTies
import Derived.KernelRfl
namespace Go.Proofs.Ytcmjpdfkacmogaa
/- THE CELL 'sum', in the pinned program and in every row, IS THE sha256 OF THE DUMP (.gsa) THAT YtcmjpdfkacmogaaProg.lean LOADS. Nothing in Lean hashes anything: it is a label: what it is worth is what the hold of that sum in a sandbox is worth. -/
noncomputable def Try.pinned : Pinned := { name := "ytcmjpdfkacmogaa", sum := "0f0846a87fda793750edfff1fa4613386d8b5c4e2e4987ff28ba945b016cf395", checked := Try.checked }
namespace Rows
def none {H : Type} : Left H := { results := [], args := [] }

/-- 'cofferlaw02.HashSums': WHATEVER THE INPUT: true; the input reads as it did. -/
def hashSumsSpec : ChangeSpec := { name := "hashSums", fn := fun _ => fun
  | [d1, d2] => { results := [.lit (.bool true)], args := [d1, d2] }
  | _ => none }
def hashSumsRow : OpenClaim := { program := "ytcmjpdfkacmogaa", sum := "0f0846a87fda793750edfff1fa4613386d8b5c4e2e4987ff28ba945b016cf395", func := "coffer/cofferlaw02.HashSums", spec := "hashSums", inPlace := ["internal/bytealg.IndexByteString", "internal/abi.NoEscape"], apart := false }
def HashSumsSaid : Prop := hashSumsRow.holds Try.pinned (OpenSpec.ofChange hashSumsSpec)

/-- ITS FALSE NEIGHBOUR: 'it returns false'. Refute it at one input. -/
def hashSumsWrong : ChangeSpec := { name := "hashSums", fn := fun _ => fun
  | [d1, d2] => { results := [.lit (.bool false)], args := [d1, d2] }
  | _ => none }
def HashSumsWrongFalsely : Prop := hashSumsRow.holds Try.pinned (OpenSpec.ofChange hashSumsWrong)

/-- 'cofferlaw02.HashWriters': WHATEVER THE INPUT: true; the input reads as it did. -/
def hashWritersSpec : ChangeSpec := { name := "hashWriters", fn := fun _ => fun
  | [d] => { results := [.lit (.bool true)], args := [d] }
  | _ => none }
def hashWritersRow : OpenClaim := { program := "ytcmjpdfkacmogaa", sum := "0f0846a87fda793750edfff1fa4613386d8b5c4e2e4987ff28ba945b016cf395", func := "coffer/cofferlaw02.HashWriters", spec := "hashWriters", inPlace := ["internal/bytealg.IndexByteString", "internal/abi.NoEscape"], apart := false }
def HashWritersSaid : Prop := hashWritersRow.holds Try.pinned (OpenSpec.ofChange hashWritersSpec)

/-- ITS FALSE NEIGHBOUR: 'it returns false'. Refute it at one input. -/
def hashWritersWrong : ChangeSpec := { name := "hashWriters", fn := fun _ => fun
  | [d] => { results := [.lit (.bool false)], args := [d] }
  | _ => none }
def HashWritersWrongFalsely : Prop := hashWritersRow.holds Try.pinned (OpenSpec.ofChange hashWritersWrong)

/-- 'cofferlaw02.HashDigits': WHATEVER THE INPUT: true; the input reads as it did. -/
def hashDigitsSpec : ChangeSpec := { name := "hashDigits", fn := fun _ => fun
  | [d1, d2] => { results := [.lit (.bool true)], args := [d1, d2] }
  | _ => none }
def hashDigitsRow : OpenClaim := { program := "ytcmjpdfkacmogaa", sum := "0f0846a87fda793750edfff1fa4613386d8b5c4e2e4987ff28ba945b016cf395", func := "coffer/cofferlaw02.HashDigits", spec := "hashDigits", inPlace := ["internal/bytealg.IndexByteString", "internal/abi.NoEscape"], apart := false }
def HashDigitsSaid : Prop := hashDigitsRow.holds Try.pinned (OpenSpec.ofChange hashDigitsSpec)

/-- ITS FALSE NEIGHBOUR: 'it returns false'. Refute it at one input. -/
def hashDigitsWrong : ChangeSpec := { name := "hashDigits", fn := fun _ => fun
  | [d1, d2] => { results := [.lit (.bool false)], args := [d1, d2] }
  | _ => none }
def HashDigitsWrongFalsely : Prop := hashDigitsRow.holds Try.pinned (OpenSpec.ofChange hashDigitsWrong)

/-- 'cofferlaw02.HashPieces': WHATEVER THE INPUT: true; the input reads as it did. -/
def hashPiecesSpec : ChangeSpec := { name := "hashPieces", fn := fun _ => fun
  | [d1, d2, d3] => { results := [.lit (.bool true)], args := [d1, d2, d3] }
  | _ => none }
def hashPiecesRow : OpenClaim := { program := "ytcmjpdfkacmogaa", sum := "0f0846a87fda793750edfff1fa4613386d8b5c4e2e4987ff28ba945b016cf395", func := "coffer/cofferlaw02.HashPieces", spec := "hashPieces", inPlace := ["internal/bytealg.IndexByteString", "internal/abi.NoEscape"], apart := false }
def HashPiecesSaid : Prop := hashPiecesRow.holds Try.pinned (OpenSpec.ofChange hashPiecesSpec)

/-- ITS FALSE NEIGHBOUR: 'it returns false'. Refute it at one input. -/
def hashPiecesWrong : ChangeSpec := { name := "hashPieces", fn := fun _ => fun
  | [d1, d2, d3] => { results := [.lit (.bool false)], args := [d1, d2, d3] }
  | _ => none }
def HashPiecesWrongFalsely : Prop := hashPiecesRow.holds Try.pinned (OpenSpec.ofChange hashPiecesWrong)

/-- 'cofferlaw02.HashBack': WHATEVER THE INPUT: true; the input reads as it did. -/
def hashBackSpec : ChangeSpec := { name := "hashBack", fn := fun _ => fun
  | [d1, d2, d3, d4] => { results := [.lit (.bool true)], args := [d1, d2, d3, d4] }
  | _ => none }
def hashBackRow : OpenClaim := { program := "ytcmjpdfkacmogaa", sum := "0f0846a87fda793750edfff1fa4613386d8b5c4e2e4987ff28ba945b016cf395", func := "coffer/cofferlaw02.HashBack", spec := "hashBack", inPlace := ["internal/bytealg.IndexByteString", "internal/abi.NoEscape"], apart := false }
def HashBackSaid : Prop := hashBackRow.holds Try.pinned (OpenSpec.ofChange hashBackSpec)

/-- ITS FALSE NEIGHBOUR: 'it returns false'. Refute it at one input. -/
def hashBackWrong : ChangeSpec := { name := "hashBack", fn := fun _ => fun
  | [d1, d2, d3, d4] => { results := [.lit (.bool false)], args := [d1, d2, d3, d4] }
  | _ => none }
def HashBackWrongFalsely : Prop := hashBackRow.holds Try.pinned (OpenSpec.ofChange hashBackWrong)

/-- 'cofferlaw02.HashKnown': WHATEVER THE INPUT: true; the input reads as it did. -/
def hashKnownSpec : ChangeSpec := { name := "hashKnown", fn := fun _ => fun
  | [] => { results := [.lit (.bool true)], args := [] }
  | _ => none }
def hashKnownRow : OpenClaim := { program := "ytcmjpdfkacmogaa", sum := "0f0846a87fda793750edfff1fa4613386d8b5c4e2e4987ff28ba945b016cf395", func := "coffer/cofferlaw02.HashKnown", spec := "hashKnown", inPlace := ["internal/bytealg.IndexByteString", "internal/abi.NoEscape"], apart := false }
def HashKnownSaid : Prop := hashKnownRow.holds Try.pinned (OpenSpec.ofChange hashKnownSpec)

/-- ITS FALSE NEIGHBOUR: 'it returns false'. Refute it at one input. -/
def hashKnownWrong : ChangeSpec := { name := "hashKnown", fn := fun _ => fun
  | [] => { results := [.lit (.bool false)], args := [] }
  | _ => none }
def HashKnownWrongFalsely : Prop := hashKnownRow.holds Try.pinned (OpenSpec.ofChange hashKnownWrong)

/- THE SECOND FORM. 'bulk': how many values and letters a reading holds, each counted each time it is reached (what is shared counts as often as it is met; a slice's spare places count too). A statement '..UptoSaid' is the law's where the arguments, and the package variables that the reading takes, are together of bulk at most 1048576: NARROWER than '..Said'. Prove '..Said' where nothing that the law and all that it calls make is longer than what came in: it says more and counts as full. Else prove '..UptoSaid'. A law counts once. -/
mutual
def uptoBulk {H : Type} : DataW H → Nat
  | .lit (.string bytes) => bytes.length + 1
  | .lit _ => 1
  | .nil => 1
  | .ptr d => uptoBulk d + 1
  | .slice elems spare => uptoBulkAll elems + uptoBulkAll spare + 1
  | .agg parts => uptoBulkAll parts + 1
  | .iface _ d => uptoBulk d + 1
  | .map entries => uptoBulkEntries entries + 1
  | .held _ => 1
def uptoBulkAll {H : Type} : List (DataW H) → Nat
  | [] => 0
  | d :: r => uptoBulk d + uptoBulkAll r
def uptoBulkEntries {H : Type} : List (Lit × DataW H) → Nat
  | [] => 0
  | x :: r => uptoBulkEntry x + uptoBulkEntries r
def uptoBulkEntry {H : Type} : Lit × DataW H → Nat
  | (.string bytes, d) => bytes.length + uptoBulk d + 1
  | (_, d) => uptoBulk d + 1
 end
def uptoSmall : (H : Type) → List (DataW H) → Bool := fun _ ds => decide (uptoBulkAll ds ≤ 1048576)
def OpenSpec.upto (s : _root_.Go.ChangeSpec) : _root_.Go.OpenSpec := { _root_.Go.OpenSpec.ofChange s with cond := some uptoSmall }

/-- 'cofferlaw02.HashSums', WHERE WHAT IT READS IS OF BULK AT MOST 1048576: true; the input reads as it did. -/
def hashSumsUptoRow : OpenClaim := { program := "ytcmjpdfkacmogaa", sum := "0f0846a87fda793750edfff1fa4613386d8b5c4e2e4987ff28ba945b016cf395", func := "coffer/cofferlaw02.HashSums", spec := "hashSums", inPlace := ["internal/bytealg.IndexByteString", "internal/abi.NoEscape"], apart := false, narrowed := true }
def HashSumsUptoSaid : Prop := hashSumsUptoRow.holds Try.pinned (OpenSpec.upto hashSumsSpec)

/-- 'cofferlaw02.HashWriters', WHERE WHAT IT READS IS OF BULK AT MOST 1048576: true; the input reads as it did. -/
def hashWritersUptoRow : OpenClaim := { program := "ytcmjpdfkacmogaa", sum := "0f0846a87fda793750edfff1fa4613386d8b5c4e2e4987ff28ba945b016cf395", func := "coffer/cofferlaw02.HashWriters", spec := "hashWriters", inPlace := ["internal/bytealg.IndexByteString", "internal/abi.NoEscape"], apart := false, narrowed := true }
def HashWritersUptoSaid : Prop := hashWritersUptoRow.holds Try.pinned (OpenSpec.upto hashWritersSpec)

/-- 'cofferlaw02.HashDigits', WHERE WHAT IT READS IS OF BULK AT MOST 1048576: true; the input reads as it did. -/
def hashDigitsUptoRow : OpenClaim := { program := "ytcmjpdfkacmogaa", sum := "0f0846a87fda793750edfff1fa4613386d8b5c4e2e4987ff28ba945b016cf395", func := "coffer/cofferlaw02.HashDigits", spec := "hashDigits", inPlace := ["internal/bytealg.IndexByteString", "internal/abi.NoEscape"], apart := false, narrowed := true }
def HashDigitsUptoSaid : Prop := hashDigitsUptoRow.holds Try.pinned (OpenSpec.upto hashDigitsSpec)

/-- 'cofferlaw02.HashPieces', WHERE WHAT IT READS IS OF BULK AT MOST 1048576: true; the input reads as it did. -/
def hashPiecesUptoRow : OpenClaim := { program := "ytcmjpdfkacmogaa", sum := "0f0846a87fda793750edfff1fa4613386d8b5c4e2e4987ff28ba945b016cf395", func := "coffer/cofferlaw02.HashPieces", spec := "hashPieces", inPlace := ["internal/bytealg.IndexByteString", "internal/abi.NoEscape"], apart := false, narrowed := true }
def HashPiecesUptoSaid : Prop := hashPiecesUptoRow.holds Try.pinned (OpenSpec.upto hashPiecesSpec)

/-- 'cofferlaw02.HashBack', WHERE WHAT IT READS IS OF BULK AT MOST 1048576: true; the input reads as it did. -/
def hashBackUptoRow : OpenClaim := { program := "ytcmjpdfkacmogaa", sum := "0f0846a87fda793750edfff1fa4613386d8b5c4e2e4987ff28ba945b016cf395", func := "coffer/cofferlaw02.HashBack", spec := "hashBack", inPlace := ["internal/bytealg.IndexByteString", "internal/abi.NoEscape"], apart := false, narrowed := true }
def HashBackUptoSaid : Prop := hashBackUptoRow.holds Try.pinned (OpenSpec.upto hashBackSpec)

/-- 'cofferlaw02.HashKnown', WHERE WHAT IT READS IS OF BULK AT MOST 1048576: true; the input reads as it did. -/
def hashKnownUptoRow : OpenClaim := { program := "ytcmjpdfkacmogaa", sum := "0f0846a87fda793750edfff1fa4613386d8b5c4e2e4987ff28ba945b016cf395", func := "coffer/cofferlaw02.HashKnown", spec := "hashKnown", inPlace := ["internal/bytealg.IndexByteString", "internal/abi.NoEscape"], apart := false, narrowed := true }
def HashKnownUptoSaid : Prop := hashKnownUptoRow.holds Try.pinned (OpenSpec.upto hashKnownSpec)

end Rows
end Go.Proofs.Ytcmjpdfkacmogaa
