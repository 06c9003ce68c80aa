/-
  No cell of these rows narrows 'for every input' (looked for: loops, veiled, ifaces, maps, wideKeys, modest, calm, conditions, laid).
  DERIVED. THE GIVEN ROWS OF THIS SEAT. 10 by the template 'for every input the law returns true; each argument reads behind the call as it read before'; 0 by the template 'total and deterministic' (their statements: YtdcjbkhfopdgnaaTotals.lean).
  GIVEN WITH THE SEED: the statements are not yours to turn. If you find one false, say at which input.
  Laid BY PROGRAM, IN A SANDBOX (cutbox-rows.mjs): the forced cells as the released guide's own fill.sh prints them over the translation 56087f2902452565… (all of the seat's roots in one cut). By AI agents, Wed Nov 11 2026. No macro, syntax, notation, axiom, sorry.
-/
import Derived.Test.YtdcjbkhfopdgnaaChecked
import GoSem.Claim
import GoSem.ClaimJoined
import GoSem.ClaimMapViews
import Derived.JoinedTies
import Derived.KernelRfl
namespace Go.Proofs.Ytdcjbkhfopdgnaa
/- THE CELL 'sum', in the pinned program and in every row, IS THE sha256 OF THE DUMP (.gsa) THAT YtdcjbkhfopdgnaaProg.lean LOADS. Nothing in Lean hashes anything: it is a label: what it is worth is what the hold of that sum in a sandbox is worth. -/
noncomputable def Try.pinned : Pinned := { name := "ytdcjbkhfopdgnaa", sum := "56087f29024525658dce9ddf9533142b7e782ec051df76c8b272babb0c36ea9e", checked := Try.checked }
namespace Rows
def none {H : Type} : Left H := { results := [], args := [] }

/-- 'pianolalaw05.InstrNames': WHATEVER THE INPUT: true; the input reads as it did. -/
def instrNamesSpec : ChangeSpec := { name := "instrNames", fn := fun _ => fun
  | [d1, d2] => { results := [.lit (.bool true)], args := [d1, d2] }
  | _ => none }
def instrNamesRow : OpenClaim := { program := "ytdcjbkhfopdgnaa", sum := "56087f29024525658dce9ddf9533142b7e782ec051df76c8b272babb0c36ea9e", func := "pianola/pianolalaw05.InstrNames", spec := "instrNames", unfollowed := true, recurses := true, apart := false }
def InstrNamesSaid : Prop := instrNamesRow.holds Try.pinned (OpenSpec.ofChange instrNamesSpec)

/-- ITS FALSE NEIGHBOUR: 'it returns false'. Refute it at one input. -/
def instrNamesWrong : ChangeSpec := { name := "instrNames", fn := fun _ => fun
  | [d1, d2] => { results := [.lit (.bool false)], args := [d1, d2] }
  | _ => none }
def InstrNamesWrongFalsely : Prop := instrNamesRow.holds Try.pinned (OpenSpec.ofChange instrNamesWrong)

/-- 'pianolalaw12.EncodeWords': WHATEVER THE INPUT: true; the input reads as it did. -/
def encodeWordsSpec : ChangeSpec := { name := "encodeWords", fn := fun _ => fun
  | [d] => { results := [.lit (.bool true)], args := [d] }
  | _ => none }
def encodeWordsRow : OpenClaim := { program := "ytdcjbkhfopdgnaa", sum := "56087f29024525658dce9ddf9533142b7e782ec051df76c8b272babb0c36ea9e", func := "pianola/pianolalaw12.EncodeWords", spec := "encodeWords", unfollowed := true, recurses := true, apart := false }
def EncodeWordsSaid : Prop := encodeWordsRow.holds Try.pinned (OpenSpec.ofChange encodeWordsSpec)

/-- ITS FALSE NEIGHBOUR: 'it returns false'. Refute it at one input. -/
def encodeWordsWrong : ChangeSpec := { name := "encodeWords", fn := fun _ => fun
  | [d] => { results := [.lit (.bool false)], args := [d] }
  | _ => none }
def EncodeWordsWrongFalsely : Prop := encodeWordsRow.holds Try.pinned (OpenSpec.ofChange encodeWordsWrong)

/-- 'pianolalaw12.EncodeLoads': WHATEVER THE INPUT: true; the input reads as it did. -/
def encodeLoadsSpec : ChangeSpec := { name := "encodeLoads", fn := fun _ => fun
  | [d1, d2] => { results := [.lit (.bool true)], args := [d1, d2] }
  | _ => none }
def encodeLoadsRow : OpenClaim := { program := "ytdcjbkhfopdgnaa", sum := "56087f29024525658dce9ddf9533142b7e782ec051df76c8b272babb0c36ea9e", func := "pianola/pianolalaw12.EncodeLoads", spec := "encodeLoads", unfollowed := true, recurses := true, apart := false }
def EncodeLoadsSaid : Prop := encodeLoadsRow.holds Try.pinned (OpenSpec.ofChange encodeLoadsSpec)

/-- ITS FALSE NEIGHBOUR: 'it returns false'. Refute it at one input. -/
def encodeLoadsWrong : ChangeSpec := { name := "encodeLoads", fn := fun _ => fun
  | [d1, d2] => { results := [.lit (.bool false)], args := [d1, d2] }
  | _ => none }
def EncodeLoadsWrongFalsely : Prop := encodeLoadsRow.holds Try.pinned (OpenSpec.ofChange encodeLoadsWrong)

/-- 'pianolalaw12.EncodeApart': WHATEVER THE INPUT: true; the input reads as it did. -/
def encodeApartSpec : ChangeSpec := { name := "encodeApart", fn := fun _ => fun
  | [d1, d2] => { results := [.lit (.bool true)], args := [d1, d2] }
  | _ => none }
def encodeApartRow : OpenClaim := { program := "ytdcjbkhfopdgnaa", sum := "56087f29024525658dce9ddf9533142b7e782ec051df76c8b272babb0c36ea9e", func := "pianola/pianolalaw12.EncodeApart", spec := "encodeApart", unfollowed := true, recurses := true, apart := false }
def EncodeApartSaid : Prop := encodeApartRow.holds Try.pinned (OpenSpec.ofChange encodeApartSpec)

/-- ITS FALSE NEIGHBOUR: 'it returns false'. Refute it at one input. -/
def encodeApartWrong : ChangeSpec := { name := "encodeApart", fn := fun _ => fun
  | [d1, d2] => { results := [.lit (.bool false)], args := [d1, d2] }
  | _ => none }
def EncodeApartWrongFalsely : Prop := encodeApartRow.holds Try.pinned (OpenSpec.ofChange encodeApartWrong)

/-- 'pianolalaw12.EncodeGoes': WHATEVER THE INPUT: true; the input reads as it did. -/
def encodeGoesSpec : ChangeSpec := { name := "encodeGoes", fn := fun _ => fun
  | [d1, d2, d3] => { results := [.lit (.bool true)], args := [d1, d2, d3] }
  | _ => none }
def encodeGoesRow : OpenClaim := { program := "ytdcjbkhfopdgnaa", sum := "56087f29024525658dce9ddf9533142b7e782ec051df76c8b272babb0c36ea9e", func := "pianola/pianolalaw12.EncodeGoes", spec := "encodeGoes", unfollowed := true, recurses := true, apart := false }
def EncodeGoesSaid : Prop := encodeGoesRow.holds Try.pinned (OpenSpec.ofChange encodeGoesSpec)

/-- ITS FALSE NEIGHBOUR: 'it returns false'. Refute it at one input. -/
def encodeGoesWrong : ChangeSpec := { name := "encodeGoes", fn := fun _ => fun
  | [d1, d2, d3] => { results := [.lit (.bool false)], args := [d1, d2, d3] }
  | _ => none }
def EncodeGoesWrongFalsely : Prop := encodeGoesRow.holds Try.pinned (OpenSpec.ofChange encodeGoesWrong)

/-- 'pianolalaw12.EncodeAll': WHATEVER THE INPUT: true; the input reads as it did. -/
def encodeAllSpec : ChangeSpec := { name := "encodeAll", fn := fun _ => fun
  | [d] => { results := [.lit (.bool true)], args := [d] }
  | _ => none }
def encodeAllRow : OpenClaim := { program := "ytdcjbkhfopdgnaa", sum := "56087f29024525658dce9ddf9533142b7e782ec051df76c8b272babb0c36ea9e", func := "pianola/pianolalaw12.EncodeAll", spec := "encodeAll", unfollowed := true, recurses := true, apart := false }
def EncodeAllSaid : Prop := encodeAllRow.holds Try.pinned (OpenSpec.ofChange encodeAllSpec)

/-- ITS FALSE NEIGHBOUR: 'it returns false'. Refute it at one input. -/
def encodeAllWrong : ChangeSpec := { name := "encodeAll", fn := fun _ => fun
  | [d] => { results := [.lit (.bool false)], args := [d] }
  | _ => none }
def EncodeAllWrongFalsely : Prop := encodeAllRow.holds Try.pinned (OpenSpec.ofChange encodeAllWrong)

/-- 'pianolalaw05.InstrCodes': WHATEVER THE INPUT: true; the input reads as it did. -/
def instrCodesSpec : ChangeSpec := { name := "instrCodes", fn := fun _ => fun
  | [d] => { results := [.lit (.bool true)], args := [d] }
  | _ => none }
def instrCodesRow : OpenClaim := { program := "ytdcjbkhfopdgnaa", sum := "56087f29024525658dce9ddf9533142b7e782ec051df76c8b272babb0c36ea9e", func := "pianola/pianolalaw05.InstrCodes", spec := "instrCodes", unfollowed := true, recurses := true, apart := false }
def InstrCodesSaid : Prop := instrCodesRow.holds Try.pinned (OpenSpec.ofChange instrCodesSpec)

/-- ITS FALSE NEIGHBOUR: 'it returns false'. Refute it at one input. -/
def instrCodesWrong : ChangeSpec := { name := "instrCodes", fn := fun _ => fun
  | [d] => { results := [.lit (.bool false)], args := [d] }
  | _ => none }
def InstrCodesWrongFalsely : Prop := instrCodesRow.holds Try.pinned (OpenSpec.ofChange instrCodesWrong)

/-- 'pianolalaw05.InstrReads': WHATEVER THE INPUT: true; the input reads as it did. -/
def instrReadsSpec : ChangeSpec := { name := "instrReads", fn := fun _ => fun
  | [d1, d2] => { results := [.lit (.bool true)], args := [d1, d2] }
  | _ => none }
def instrReadsRow : OpenClaim := { program := "ytdcjbkhfopdgnaa", sum := "56087f29024525658dce9ddf9533142b7e782ec051df76c8b272babb0c36ea9e", func := "pianola/pianolalaw05.InstrReads", spec := "instrReads", unfollowed := true, recurses := true, apart := false }
def InstrReadsSaid : Prop := instrReadsRow.holds Try.pinned (OpenSpec.ofChange instrReadsSpec)

/-- ITS FALSE NEIGHBOUR: 'it returns false'. Refute it at one input. -/
def instrReadsWrong : ChangeSpec := { name := "instrReads", fn := fun _ => fun
  | [d1, d2] => { results := [.lit (.bool false)], args := [d1, d2] }
  | _ => none }
def InstrReadsWrongFalsely : Prop := instrReadsRow.holds Try.pinned (OpenSpec.ofChange instrReadsWrong)

/-- 'pianolalaw05.InstrSizes': WHATEVER THE INPUT: true; the input reads as it did. -/
def instrSizesSpec : ChangeSpec := { name := "instrSizes", fn := fun _ => fun
  | [d] => { results := [.lit (.bool true)], args := [d] }
  | _ => none }
def instrSizesRow : OpenClaim := { program := "ytdcjbkhfopdgnaa", sum := "56087f29024525658dce9ddf9533142b7e782ec051df76c8b272babb0c36ea9e", func := "pianola/pianolalaw05.InstrSizes", spec := "instrSizes", unfollowed := true, recurses := true, apart := false }
def InstrSizesSaid : Prop := instrSizesRow.holds Try.pinned (OpenSpec.ofChange instrSizesSpec)

/-- ITS FALSE NEIGHBOUR: 'it returns false'. Refute it at one input. -/
def instrSizesWrong : ChangeSpec := { name := "instrSizes", fn := fun _ => fun
  | [d] => { results := [.lit (.bool false)], args := [d] }
  | _ => none }
def InstrSizesWrongFalsely : Prop := instrSizesRow.holds Try.pinned (OpenSpec.ofChange instrSizesWrong)

/-- 'pianolalaw05.InstrOps': WHATEVER THE INPUT: true; the input reads as it did. -/
def instrOpsSpec : ChangeSpec := { name := "instrOps", fn := fun _ => fun
  | [d1, d2] => { results := [.lit (.bool true)], args := [d1, d2] }
  | _ => none }
def instrOpsRow : OpenClaim := { program := "ytdcjbkhfopdgnaa", sum := "56087f29024525658dce9ddf9533142b7e782ec051df76c8b272babb0c36ea9e", func := "pianola/pianolalaw05.InstrOps", spec := "instrOps", unfollowed := true, recurses := true, apart := false }
def InstrOpsSaid : Prop := instrOpsRow.holds Try.pinned (OpenSpec.ofChange instrOpsSpec)

/-- ITS FALSE NEIGHBOUR: 'it returns false'. Refute it at one input. -/
def instrOpsWrong : ChangeSpec := { name := "instrOps", fn := fun _ => fun
  | [d1, d2] => { results := [.lit (.bool false)], args := [d1, d2] }
  | _ => none }
def InstrOpsWrongFalsely : Prop := instrOpsRow.holds Try.pinned (OpenSpec.ofChange instrOpsWrong)

/- THE SECOND FORM. 'bulk': how many values and letters a reading holds, each counted each time it is reached (what is shared counts as often as it is met; a slice's spare places count too). A statement '..UptoSaid' is the law's where the arguments, and the package variables that the reading takes, are together of bulk at most 1048576: NARROWER than '..Said'. Prove '..Said' where nothing that the law and all that it calls make is longer than what came in: it says more and counts as full. Else prove '..UptoSaid'. A law counts once. -/
mutual
def uptoBulk {H : Type} : DataW H → Nat
  | .lit (.string bytes) => bytes.length + 1
  | .lit _ => 1
  | .nil => 1
  | .ptr d => uptoBulk d + 1
  | .slice elems spare => uptoBulkAll elems + uptoBulkAll spare + 1
  | .agg parts => uptoBulkAll parts + 1
  | .iface _ d => uptoBulk d + 1
  | .map entries => uptoBulkEntries entries + 1
  | .held _ => 1
def uptoBulkAll {H : Type} : List (DataW H) → Nat
  | [] => 0
  | d :: r => uptoBulk d + uptoBulkAll r
def uptoBulkEntries {H : Type} : List (Lit × DataW H) → Nat
  | [] => 0
  | x :: r => uptoBulkEntry x + uptoBulkEntries r
def uptoBulkEntry {H : Type} : Lit × DataW H → Nat
  | (.string bytes, d) => bytes.length + uptoBulk d + 1
  | (_, d) => uptoBulk d + 1
 end
def uptoSmall : (H : Type) → List (DataW H) → Bool := fun _ ds => decide (uptoBulkAll ds ≤ 1048576)
def OpenSpec.upto (s : _root_.Go.ChangeSpec) : _root_.Go.OpenSpec := { _root_.Go.OpenSpec.ofChange s with cond := some uptoSmall }

/-- 'pianolalaw05.InstrNames', WHERE WHAT IT READS IS OF BULK AT MOST 1048576: true; the input reads as it did. -/
def instrNamesUptoRow : OpenClaim := { program := "ytdcjbkhfopdgnaa", sum := "56087f29024525658dce9ddf9533142b7e782ec051df76c8b272babb0c36ea9e", func := "pianola/pianolalaw05.InstrNames", spec := "instrNames", unfollowed := true, recurses := true, apart := false, narrowed := true }
def InstrNamesUptoSaid : Prop := instrNamesUptoRow.holds Try.pinned (OpenSpec.upto instrNamesSpec)

/-- 'pianolalaw12.EncodeWords', WHERE WHAT IT READS IS OF BULK AT MOST 1048576: true; the input reads as it did. -/
def encodeWordsUptoRow : OpenClaim := { program := "ytdcjbkhfopdgnaa", sum := "56087f29024525658dce9ddf9533142b7e782ec051df76c8b272babb0c36ea9e", func := "pianola/pianolalaw12.EncodeWords", spec := "encodeWords", unfollowed := true, recurses := true, apart := false, narrowed := true }
def EncodeWordsUptoSaid : Prop := encodeWordsUptoRow.holds Try.pinned (OpenSpec.upto encodeWordsSpec)

/-- 'pianolalaw12.EncodeLoads', WHERE WHAT IT READS IS OF BULK AT MOST 1048576: true; the input reads as it did. -/
def encodeLoadsUptoRow : OpenClaim := { program := "ytdcjbkhfopdgnaa", sum := "56087f29024525658dce9ddf9533142b7e782ec051df76c8b272babb0c36ea9e", func := "pianola/pianolalaw12.EncodeLoads", spec := "encodeLoads", unfollowed := true, recurses := true, apart := false, narrowed := true }
def EncodeLoadsUptoSaid : Prop := encodeLoadsUptoRow.holds Try.pinned (OpenSpec.upto encodeLoadsSpec)

/-- 'pianolalaw12.EncodeApart', WHERE WHAT IT READS IS OF BULK AT MOST 1048576: true; the input reads as it did. -/
def encodeApartUptoRow : OpenClaim := { program := "ytdcjbkhfopdgnaa", sum := "56087f29024525658dce9ddf9533142b7e782ec051df76c8b272babb0c36ea9e", func := "pianola/pianolalaw12.EncodeApart", spec := "encodeApart", unfollowed := true, recurses := true, apart := false, narrowed := true }
def EncodeApartUptoSaid : Prop := encodeApartUptoRow.holds Try.pinned (OpenSpec.upto encodeApartSpec)

/-- 'pianolalaw12.EncodeGoes', WHERE WHAT IT READS IS OF BULK AT MOST 1048576: true; the input reads as it did. -/
def encodeGoesUptoRow : OpenClaim := { program := "ytdcjbkhfopdgnaa", sum := "56087f29024525658dce9ddf9533142b7e782ec051df76c8b272babb0c36ea9e", func := "pianola/pianolalaw12.EncodeGoes", spec := "encodeGoes", unfollowed := true, recurses := true, apart := false, narrowed := true }
def EncodeGoesUptoSaid : Prop := encodeGoesUptoRow.holds Try.pinned (OpenSpec.upto encodeGoesSpec)

/-- 'pianolalaw12.EncodeAll', WHERE WHAT IT READS IS OF BULK AT MOST 1048576: true; the input reads as it did. -/
def encodeAllUptoRow : OpenClaim := { program := "ytdcjbkhfopdgnaa", sum := "56087f29024525658dce9ddf9533142b7e782ec051df76c8b272babb0c36ea9e", func := "pianola/pianolalaw12.EncodeAll", spec := "encodeAll", unfollowed := true, recurses := true, apart := false, narrowed := true }
def EncodeAllUptoSaid : Prop := encodeAllUptoRow.holds Try.pinned (OpenSpec.upto encodeAllSpec)

/-- 'pianolalaw05.InstrCodes', WHERE WHAT IT READS IS OF BULK AT MOST 1048576: true; the input reads as it did. -/
def instrCodesUptoRow : OpenClaim := { program := "ytdcjbkhfopdgnaa", sum := "56087f29024525658dce9ddf9533142b7e782ec051df76c8b272babb0c36ea9e", func := "pianola/pianolalaw05.InstrCodes", spec := "instrCodes", unfollowed := true, recurses := true, apart := false, narrowed := true }
def InstrCodesUptoSaid : Prop := instrCodesUptoRow.holds Try.pinned (OpenSpec.upto instrCodesSpec)

/-- 'pianolalaw05.InstrReads', WHERE WHAT IT READS IS OF BULK AT MOST 1048576: true; the input reads as it did. -/
def instrReadsUptoRow : OpenClaim := { program := "ytdcjbkhfopdgnaa", sum := "56087f29024525658dce9ddf9533142b7e782ec051df76c8b272babb0c36ea9e", func := "pianola/pianolalaw05.InstrReads", spec := "instrReads", unfollowed := true, recurses := true, apart := false, narrowed := true }
def InstrReadsUptoSaid : Prop := instrReadsUptoRow.holds Try.pinned (OpenSpec.upto instrReadsSpec)

/-- 'pianolalaw05.InstrSizes', WHERE WHAT IT READS IS OF BULK AT MOST 1048576: true; the input reads as it did. -/
def instrSizesUptoRow : OpenClaim := { program := "ytdcjbkhfopdgnaa", sum := "56087f29024525658dce9ddf9533142b7e782ec051df76c8b272babb0c36ea9e", func := "pianola/pianolalaw05.InstrSizes", spec := "instrSizes", unfollowed := true, recurses := true, apart := false, narrowed := true }
def InstrSizesUptoSaid : Prop := instrSizesUptoRow.holds Try.pinned (OpenSpec.upto instrSizesSpec)

/-- 'pianolalaw05.InstrOps', WHERE WHAT IT READS IS OF BULK AT MOST 1048576: true; the input reads as it did. -/
def instrOpsUptoRow : OpenClaim := { program := "ytdcjbkhfopdgnaa", sum := "56087f29024525658dce9ddf9533142b7e782ec051df76c8b272babb0c36ea9e", func := "pianola/pianolalaw05.InstrOps", spec := "instrOps", unfollowed := true, recurses := true, apart := false, narrowed := true }
def InstrOpsUptoSaid : Prop := instrOpsUptoRow.holds Try.pinned (OpenSpec.upto instrOpsSpec)

end Rows
end Go.Proofs.Ytdcjbkhfopdgnaa
