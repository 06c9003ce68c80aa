/-
  No cell of these rows narrows 'for every input' (looked for: loops, veiled, ifaces, maps, wideKeys, modest, calm, conditions, laid).
  DERIVED. THE GIVEN ROWS OF THIS SEAT. 9 by the template 'for every input the law returns true; each argument reads behind the call as it read before'; 0 by the template 'total and deterministic' (their statements: YtdlkkjfbbeffbaaTotals.lean).
  GIVEN WITH THE SEED: the statements are not yours to turn. If you find one false, say at which input.
  Laid BY PROGRAM, IN A SANDBOX (cutbox-rows.mjs): the forced cells as the released guide's own fill.sh prints them over the translation f43e50726f8e54ee… (all of the seat's roots in one cut). By AI agents, Wed Nov 11 2026. No macro, syntax, notation, axiom, sorry.
-/
import Derived.Test.YtdlkkjfbbeffbaaChecked
import GoSem.Claim
import GoSem.ClaimJoined
import GoSem.ClaimMapViews
import Derived.JoinedTies
import Derived.KernelRfl
namespace Go.Proofs.Ytdlkkjfbbeffbaa
/- THE CELL 'sum', in the pinned program and in every row, IS THE sha256 OF THE DUMP (.gsa) THAT YtdlkkjfbbeffbaaProg.lean LOADS. Nothing in Lean hashes anything: it is a label: what it is worth is what the hold of that sum in a sandbox is worth. -/
noncomputable def Try.pinned : Pinned := { name := "ytdlkkjfbbeffbaa", sum := "f43e50726f8e54ee85cace659f581274779d13e28af93dec6a8ad1b22c9906ca", checked := Try.checked }
namespace Rows
def none {H : Type} : Left H := { results := [], args := [] }

/-- 'pianolalaw01.CodecNests': WHATEVER THE INPUT: true; the input reads as it did. -/
def codecNestsSpec : ChangeSpec := { name := "codecNests", fn := fun _ => fun
  | [d] => { results := [.lit (.bool true)], args := [d] }
  | _ => none }
def codecNestsRow : OpenClaim := { program := "ytdlkkjfbbeffbaa", sum := "f43e50726f8e54ee85cace659f581274779d13e28af93dec6a8ad1b22c9906ca", func := "pianola/pianolalaw01.CodecNests", spec := "codecNests", unfollowed := true, recurses := true, apart := false }
def CodecNestsSaid : Prop := codecNestsRow.holds Try.pinned (OpenSpec.ofChange codecNestsSpec)

/-- ITS FALSE NEIGHBOUR: 'it returns false'. Refute it at one input. -/
def codecNestsWrong : ChangeSpec := { name := "codecNests", fn := fun _ => fun
  | [d] => { results := [.lit (.bool false)], args := [d] }
  | _ => none }
def CodecNestsWrongFalsely : Prop := codecNestsRow.holds Try.pinned (OpenSpec.ofChange codecNestsWrong)

/-- 'pianolalaw01.CodecInts': WHATEVER THE INPUT: true; the input reads as it did. -/
def codecIntsSpec : ChangeSpec := { name := "codecInts", fn := fun _ => fun
  | [d] => { results := [.lit (.bool true)], args := [d] }
  | _ => none }
def codecIntsRow : OpenClaim := { program := "ytdlkkjfbbeffbaa", sum := "f43e50726f8e54ee85cace659f581274779d13e28af93dec6a8ad1b22c9906ca", func := "pianola/pianolalaw01.CodecInts", spec := "codecInts", unfollowed := true, recurses := true, apart := false }
def CodecIntsSaid : Prop := codecIntsRow.holds Try.pinned (OpenSpec.ofChange codecIntsSpec)

/-- ITS FALSE NEIGHBOUR: 'it returns false'. Refute it at one input. -/
def codecIntsWrong : ChangeSpec := { name := "codecInts", fn := fun _ => fun
  | [d] => { results := [.lit (.bool false)], args := [d] }
  | _ => none }
def CodecIntsWrongFalsely : Prop := codecIntsRow.holds Try.pinned (OpenSpec.ofChange codecIntsWrong)

/-- 'pianolalaw01.CodecReads': WHATEVER THE INPUT: true; the input reads as it did. -/
def codecReadsSpec : ChangeSpec := { name := "codecReads", fn := fun _ => fun
  | [d] => { results := [.lit (.bool true)], args := [d] }
  | _ => none }
def codecReadsRow : OpenClaim := { program := "ytdlkkjfbbeffbaa", sum := "f43e50726f8e54ee85cace659f581274779d13e28af93dec6a8ad1b22c9906ca", func := "pianola/pianolalaw01.CodecReads", spec := "codecReads", unfollowed := true, recurses := true, apart := false }
def CodecReadsSaid : Prop := codecReadsRow.holds Try.pinned (OpenSpec.ofChange codecReadsSpec)

/-- ITS FALSE NEIGHBOUR: 'it returns false'. Refute it at one input. -/
def codecReadsWrong : ChangeSpec := { name := "codecReads", fn := fun _ => fun
  | [d] => { results := [.lit (.bool false)], args := [d] }
  | _ => none }
def CodecReadsWrongFalsely : Prop := codecReadsRow.holds Try.pinned (OpenSpec.ofChange codecReadsWrong)

/-- 'pianolalaw01.CodecApart': WHATEVER THE INPUT: true; the input reads as it did. -/
def codecApartSpec : ChangeSpec := { name := "codecApart", fn := fun _ => fun
  | [d1, d2] => { results := [.lit (.bool true)], args := [d1, d2] }
  | _ => none }
def codecApartRow : OpenClaim := { program := "ytdlkkjfbbeffbaa", sum := "f43e50726f8e54ee85cace659f581274779d13e28af93dec6a8ad1b22c9906ca", func := "pianola/pianolalaw01.CodecApart", spec := "codecApart", unfollowed := true, recurses := true, apart := false }
def CodecApartSaid : Prop := codecApartRow.holds Try.pinned (OpenSpec.ofChange codecApartSpec)

/-- ITS FALSE NEIGHBOUR: 'it returns false'. Refute it at one input. -/
def codecApartWrong : ChangeSpec := { name := "codecApart", fn := fun _ => fun
  | [d1, d2] => { results := [.lit (.bool false)], args := [d1, d2] }
  | _ => none }
def CodecApartWrongFalsely : Prop := codecApartRow.holds Try.pinned (OpenSpec.ofChange codecApartWrong)

/-- 'pianolalaw01.CodecGoes': WHATEVER THE INPUT: true; the input reads as it did. -/
def codecGoesSpec : ChangeSpec := { name := "codecGoes", fn := fun _ => fun
  | [d1, d2] => { results := [.lit (.bool true)], args := [d1, d2] }
  | _ => none }
def codecGoesRow : OpenClaim := { program := "ytdlkkjfbbeffbaa", sum := "f43e50726f8e54ee85cace659f581274779d13e28af93dec6a8ad1b22c9906ca", func := "pianola/pianolalaw01.CodecGoes", spec := "codecGoes", unfollowed := true, recurses := true, apart := false }
def CodecGoesSaid : Prop := codecGoesRow.holds Try.pinned (OpenSpec.ofChange codecGoesSpec)

/-- ITS FALSE NEIGHBOUR: 'it returns false'. Refute it at one input. -/
def codecGoesWrong : ChangeSpec := { name := "codecGoes", fn := fun _ => fun
  | [d1, d2] => { results := [.lit (.bool false)], args := [d1, d2] }
  | _ => none }
def CodecGoesWrongFalsely : Prop := codecGoesRow.holds Try.pinned (OpenSpec.ofChange codecGoesWrong)

/-- 'pianolalaw01.CodecBlobs': WHATEVER THE INPUT: true; the input reads as it did. -/
def codecBlobsSpec : ChangeSpec := { name := "codecBlobs", fn := fun _ => fun
  | [d] => { results := [.lit (.bool true)], args := [d] }
  | _ => none }
def codecBlobsRow : OpenClaim := { program := "ytdlkkjfbbeffbaa", sum := "f43e50726f8e54ee85cace659f581274779d13e28af93dec6a8ad1b22c9906ca", func := "pianola/pianolalaw01.CodecBlobs", spec := "codecBlobs", unfollowed := true, recurses := true, apart := false }
def CodecBlobsSaid : Prop := codecBlobsRow.holds Try.pinned (OpenSpec.ofChange codecBlobsSpec)

/-- ITS FALSE NEIGHBOUR: 'it returns false'. Refute it at one input. -/
def codecBlobsWrong : ChangeSpec := { name := "codecBlobs", fn := fun _ => fun
  | [d] => { results := [.lit (.bool false)], args := [d] }
  | _ => none }
def CodecBlobsWrongFalsely : Prop := codecBlobsRow.holds Try.pinned (OpenSpec.ofChange codecBlobsWrong)

/-- 'pianolalaw01.CodecFixed': WHATEVER THE INPUT: true; the input reads as it did. -/
def codecFixedSpec : ChangeSpec := { name := "codecFixed", fn := fun _ => fun
  | [d1, d2] => { results := [.lit (.bool true)], args := [d1, d2] }
  | _ => none }
def codecFixedRow : OpenClaim := { program := "ytdlkkjfbbeffbaa", sum := "f43e50726f8e54ee85cace659f581274779d13e28af93dec6a8ad1b22c9906ca", func := "pianola/pianolalaw01.CodecFixed", spec := "codecFixed", unfollowed := true, recurses := true, apart := false }
def CodecFixedSaid : Prop := codecFixedRow.holds Try.pinned (OpenSpec.ofChange codecFixedSpec)

/-- ITS FALSE NEIGHBOUR: 'it returns false'. Refute it at one input. -/
def codecFixedWrong : ChangeSpec := { name := "codecFixed", fn := fun _ => fun
  | [d1, d2] => { results := [.lit (.bool false)], args := [d1, d2] }
  | _ => none }
def CodecFixedWrongFalsely : Prop := codecFixedRow.holds Try.pinned (OpenSpec.ofChange codecFixedWrong)

/-- 'pianolalaw01.CodecLists': WHATEVER THE INPUT: true; the input reads as it did. -/
def codecListsSpec : ChangeSpec := { name := "codecLists", fn := fun _ => fun
  | [d1, d2] => { results := [.lit (.bool true)], args := [d1, d2] }
  | _ => none }
def codecListsRow : OpenClaim := { program := "ytdlkkjfbbeffbaa", sum := "f43e50726f8e54ee85cace659f581274779d13e28af93dec6a8ad1b22c9906ca", func := "pianola/pianolalaw01.CodecLists", spec := "codecLists", unfollowed := true, recurses := true, apart := false }
def CodecListsSaid : Prop := codecListsRow.holds Try.pinned (OpenSpec.ofChange codecListsSpec)

/-- ITS FALSE NEIGHBOUR: 'it returns false'. Refute it at one input. -/
def codecListsWrong : ChangeSpec := { name := "codecLists", fn := fun _ => fun
  | [d1, d2] => { results := [.lit (.bool false)], args := [d1, d2] }
  | _ => none }
def CodecListsWrongFalsely : Prop := codecListsRow.holds Try.pinned (OpenSpec.ofChange codecListsWrong)

/-- 'pianolalaw01.CodecTakes': WHATEVER THE INPUT: true; the input reads as it did. -/
def codecTakesSpec : ChangeSpec := { name := "codecTakes", fn := fun _ => fun
  | [d] => { results := [.lit (.bool true)], args := [d] }
  | _ => none }
def codecTakesRow : OpenClaim := { program := "ytdlkkjfbbeffbaa", sum := "f43e50726f8e54ee85cace659f581274779d13e28af93dec6a8ad1b22c9906ca", func := "pianola/pianolalaw01.CodecTakes", spec := "codecTakes", unfollowed := true, recurses := true, apart := false }
def CodecTakesSaid : Prop := codecTakesRow.holds Try.pinned (OpenSpec.ofChange codecTakesSpec)

/-- ITS FALSE NEIGHBOUR: 'it returns false'. Refute it at one input. -/
def codecTakesWrong : ChangeSpec := { name := "codecTakes", fn := fun _ => fun
  | [d] => { results := [.lit (.bool false)], args := [d] }
  | _ => none }
def CodecTakesWrongFalsely : Prop := codecTakesRow.holds Try.pinned (OpenSpec.ofChange codecTakesWrong)

/- THE SECOND FORM. 'bulk': how many values and letters a reading holds, each counted each time it is reached (what is shared counts as often as it is met; a slice's spare places count too). A statement '..UptoSaid' is the law's where the arguments, and the package variables that the reading takes, are together of bulk at most 1048576: NARROWER than '..Said'. Prove '..Said' where nothing that the law and all that it calls make is longer than what came in: it says more and counts as full. Else prove '..UptoSaid'. A law counts once. -/
mutual
def uptoBulk {H : Type} : DataW H → Nat
  | .lit (.string bytes) => bytes.length + 1
  | .lit _ => 1
  | .nil => 1
  | .ptr d => uptoBulk d + 1
  | .slice elems spare => uptoBulkAll elems + uptoBulkAll spare + 1
  | .agg parts => uptoBulkAll parts + 1
  | .iface _ d => uptoBulk d + 1
  | .map entries => uptoBulkEntries entries + 1
  | .held _ => 1
def uptoBulkAll {H : Type} : List (DataW H) → Nat
  | [] => 0
  | d :: r => uptoBulk d + uptoBulkAll r
def uptoBulkEntries {H : Type} : List (Lit × DataW H) → Nat
  | [] => 0
  | x :: r => uptoBulkEntry x + uptoBulkEntries r
def uptoBulkEntry {H : Type} : Lit × DataW H → Nat
  | (.string bytes, d) => bytes.length + uptoBulk d + 1
  | (_, d) => uptoBulk d + 1
 end
def uptoSmall : (H : Type) → List (DataW H) → Bool := fun _ ds => decide (uptoBulkAll ds ≤ 1048576)
def OpenSpec.upto (s : _root_.Go.ChangeSpec) : _root_.Go.OpenSpec := { _root_.Go.OpenSpec.ofChange s with cond := some uptoSmall }

/-- 'pianolalaw01.CodecNests', WHERE WHAT IT READS IS OF BULK AT MOST 1048576: true; the input reads as it did. -/
def codecNestsUptoRow : OpenClaim := { program := "ytdlkkjfbbeffbaa", sum := "f43e50726f8e54ee85cace659f581274779d13e28af93dec6a8ad1b22c9906ca", func := "pianola/pianolalaw01.CodecNests", spec := "codecNests", unfollowed := true, recurses := true, apart := false, narrowed := true }
def CodecNestsUptoSaid : Prop := codecNestsUptoRow.holds Try.pinned (OpenSpec.upto codecNestsSpec)

/-- 'pianolalaw01.CodecInts', WHERE WHAT IT READS IS OF BULK AT MOST 1048576: true; the input reads as it did. -/
def codecIntsUptoRow : OpenClaim := { program := "ytdlkkjfbbeffbaa", sum := "f43e50726f8e54ee85cace659f581274779d13e28af93dec6a8ad1b22c9906ca", func := "pianola/pianolalaw01.CodecInts", spec := "codecInts", unfollowed := true, recurses := true, apart := false, narrowed := true }
def CodecIntsUptoSaid : Prop := codecIntsUptoRow.holds Try.pinned (OpenSpec.upto codecIntsSpec)

/-- 'pianolalaw01.CodecReads', WHERE WHAT IT READS IS OF BULK AT MOST 1048576: true; the input reads as it did. -/
def codecReadsUptoRow : OpenClaim := { program := "ytdlkkjfbbeffbaa", sum := "f43e50726f8e54ee85cace659f581274779d13e28af93dec6a8ad1b22c9906ca", func := "pianola/pianolalaw01.CodecReads", spec := "codecReads", unfollowed := true, recurses := true, apart := false, narrowed := true }
def CodecReadsUptoSaid : Prop := codecReadsUptoRow.holds Try.pinned (OpenSpec.upto codecReadsSpec)

/-- 'pianolalaw01.CodecApart', WHERE WHAT IT READS IS OF BULK AT MOST 1048576: true; the input reads as it did. -/
def codecApartUptoRow : OpenClaim := { program := "ytdlkkjfbbeffbaa", sum := "f43e50726f8e54ee85cace659f581274779d13e28af93dec6a8ad1b22c9906ca", func := "pianola/pianolalaw01.CodecApart", spec := "codecApart", unfollowed := true, recurses := true, apart := false, narrowed := true }
def CodecApartUptoSaid : Prop := codecApartUptoRow.holds Try.pinned (OpenSpec.upto codecApartSpec)

/-- 'pianolalaw01.CodecGoes', WHERE WHAT IT READS IS OF BULK AT MOST 1048576: true; the input reads as it did. -/
def codecGoesUptoRow : OpenClaim := { program := "ytdlkkjfbbeffbaa", sum := "f43e50726f8e54ee85cace659f581274779d13e28af93dec6a8ad1b22c9906ca", func := "pianola/pianolalaw01.CodecGoes", spec := "codecGoes", unfollowed := true, recurses := true, apart := false, narrowed := true }
def CodecGoesUptoSaid : Prop := codecGoesUptoRow.holds Try.pinned (OpenSpec.upto codecGoesSpec)

/-- 'pianolalaw01.CodecBlobs', WHERE WHAT IT READS IS OF BULK AT MOST 1048576: true; the input reads as it did. -/
def codecBlobsUptoRow : OpenClaim := { program := "ytdlkkjfbbeffbaa", sum := "f43e50726f8e54ee85cace659f581274779d13e28af93dec6a8ad1b22c9906ca", func := "pianola/pianolalaw01.CodecBlobs", spec := "codecBlobs", unfollowed := true, recurses := true, apart := false, narrowed := true }
def CodecBlobsUptoSaid : Prop := codecBlobsUptoRow.holds Try.pinned (OpenSpec.upto codecBlobsSpec)

/-- 'pianolalaw01.CodecFixed', WHERE WHAT IT READS IS OF BULK AT MOST 1048576: true; the input reads as it did. -/
def codecFixedUptoRow : OpenClaim := { program := "ytdlkkjfbbeffbaa", sum := "f43e50726f8e54ee85cace659f581274779d13e28af93dec6a8ad1b22c9906ca", func := "pianola/pianolalaw01.CodecFixed", spec := "codecFixed", unfollowed := true, recurses := true, apart := false, narrowed := true }
def CodecFixedUptoSaid : Prop := codecFixedUptoRow.holds Try.pinned (OpenSpec.upto codecFixedSpec)

/-- 'pianolalaw01.CodecLists', WHERE WHAT IT READS IS OF BULK AT MOST 1048576: true; the input reads as it did. -/
def codecListsUptoRow : OpenClaim := { program := "ytdlkkjfbbeffbaa", sum := "f43e50726f8e54ee85cace659f581274779d13e28af93dec6a8ad1b22c9906ca", func := "pianola/pianolalaw01.CodecLists", spec := "codecLists", unfollowed := true, recurses := true, apart := false, narrowed := true }
def CodecListsUptoSaid : Prop := codecListsUptoRow.holds Try.pinned (OpenSpec.upto codecListsSpec)

/-- 'pianolalaw01.CodecTakes', WHERE WHAT IT READS IS OF BULK AT MOST 1048576: true; the input reads as it did. -/
def codecTakesUptoRow : OpenClaim := { program := "ytdlkkjfbbeffbaa", sum := "f43e50726f8e54ee85cace659f581274779d13e28af93dec6a8ad1b22c9906ca", func := "pianola/pianolalaw01.CodecTakes", spec := "codecTakes", unfollowed := true, recurses := true, apart := false, narrowed := true }
def CodecTakesUptoSaid : Prop := codecTakesUptoRow.holds Try.pinned (OpenSpec.upto codecTakesSpec)

end Rows
end Go.Proofs.Ytdlkkjfbbeffbaa
