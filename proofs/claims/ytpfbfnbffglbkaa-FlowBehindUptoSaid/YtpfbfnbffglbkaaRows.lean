/-
  No cell of these rows narrows 'for every input' (looked for: loops, veiled, ifaces, maps, wideKeys, modest, calm, conditions, laid).
  DERIVED. THE GIVEN ROWS OF THIS SEAT. 10 by the template 'for every input the law returns true; each argument reads behind the call as it read before'; 0 by the template 'total and deterministic' (their statements: YtpfbfnbffglbkaaTotals.lean).
  GIVEN WITH THE SEED: the statements are not yours to turn. If you find one false, say at which input.
  Laid BY PROGRAM, IN A SANDBOX (cutbox-rows.mjs): the forced cells as the released guide's own fill.sh prints them over the translation 8fd0e005a6fd9126… (all of the seat's roots in one cut). By AI agents, Wed Nov 11 2026. No macro, syntax, notation, axiom, sorry.
-/
import Derived.Test.YtpfbfnbffglbkaaChecked
import GoSem.Claim
import GoSem.ClaimJoined
import GoSem.ClaimMapViews
import Derived.JoinedTies
import Derived.KernelRfl
namespace Go.Proofs.Ytpfbfnbffglbkaa
/- THE CELL 'sum', in the pinned program and in every row, IS THE sha256 OF THE DUMP (.gsa) THAT YtpfbfnbffglbkaaProg.lean LOADS. Nothing in Lean hashes anything: it is a label: what it is worth is what the hold of that sum in a sandbox is worth. -/
noncomputable def Try.pinned : Pinned := { name := "ytpfbfnbffglbkaa", sum := "8fd0e005a6fd9126cdaa3827636c4ea9d7d9332777bc6aafdc863c0f7830566f", checked := Try.checked }
namespace Rows
def none {H : Type} : Left H := { results := [], args := [] }

/-- 'pianolalaw08.FlowBlocks': WHATEVER THE INPUT: true; the input reads as it did. -/
def flowBlocksSpec : ChangeSpec := { name := "flowBlocks", fn := fun _ => fun
  | [d1, d2] => { results := [.lit (.bool true)], args := [d1, d2] }
  | _ => none }
def flowBlocksRow : OpenClaim := { program := "ytpfbfnbffglbkaa", sum := "8fd0e005a6fd9126cdaa3827636c4ea9d7d9332777bc6aafdc863c0f7830566f", func := "pianola/pianolalaw08.FlowBlocks", spec := "flowBlocks", unfollowed := true, recurses := true, apart := false }
def FlowBlocksSaid : Prop := flowBlocksRow.holds Try.pinned (OpenSpec.ofChange flowBlocksSpec)

/-- ITS FALSE NEIGHBOUR: 'it returns false'. Refute it at one input. -/
def flowBlocksWrong : ChangeSpec := { name := "flowBlocks", fn := fun _ => fun
  | [d1, d2] => { results := [.lit (.bool false)], args := [d1, d2] }
  | _ => none }
def FlowBlocksWrongFalsely : Prop := flowBlocksRow.holds Try.pinned (OpenSpec.ofChange flowBlocksWrong)

/-- 'pianolalaw08.FlowWalks': WHATEVER THE INPUT: true; the input reads as it did. -/
def flowWalksSpec : ChangeSpec := { name := "flowWalks", fn := fun _ => fun
  | [d] => { results := [.lit (.bool true)], args := [d] }
  | _ => none }
def flowWalksRow : OpenClaim := { program := "ytpfbfnbffglbkaa", sum := "8fd0e005a6fd9126cdaa3827636c4ea9d7d9332777bc6aafdc863c0f7830566f", func := "pianola/pianolalaw08.FlowWalks", spec := "flowWalks", unfollowed := true, recurses := true, apart := false }
def FlowWalksSaid : Prop := flowWalksRow.holds Try.pinned (OpenSpec.ofChange flowWalksSpec)

/-- ITS FALSE NEIGHBOUR: 'it returns false'. Refute it at one input. -/
def flowWalksWrong : ChangeSpec := { name := "flowWalks", fn := fun _ => fun
  | [d] => { results := [.lit (.bool false)], args := [d] }
  | _ => none }
def FlowWalksWrongFalsely : Prop := flowWalksRow.holds Try.pinned (OpenSpec.ofChange flowWalksWrong)

/-- 'pianolalaw08.FlowOver': WHATEVER THE INPUT: true; the input reads as it did. -/
def flowOverSpec : ChangeSpec := { name := "flowOver", fn := fun _ => fun
  | [d] => { results := [.lit (.bool true)], args := [d] }
  | _ => none }
def flowOverRow : OpenClaim := { program := "ytpfbfnbffglbkaa", sum := "8fd0e005a6fd9126cdaa3827636c4ea9d7d9332777bc6aafdc863c0f7830566f", func := "pianola/pianolalaw08.FlowOver", spec := "flowOver", unfollowed := true, recurses := true, apart := false }
def FlowOverSaid : Prop := flowOverRow.holds Try.pinned (OpenSpec.ofChange flowOverSpec)

/-- ITS FALSE NEIGHBOUR: 'it returns false'. Refute it at one input. -/
def flowOverWrong : ChangeSpec := { name := "flowOver", fn := fun _ => fun
  | [d] => { results := [.lit (.bool false)], args := [d] }
  | _ => none }
def FlowOverWrongFalsely : Prop := flowOverRow.holds Try.pinned (OpenSpec.ofChange flowOverWrong)

/-- 'pianolalaw08.FlowBehind': WHATEVER THE INPUT: true; the input reads as it did. -/
def flowBehindSpec : ChangeSpec := { name := "flowBehind", fn := fun _ => fun
  | [d1, d2] => { results := [.lit (.bool true)], args := [d1, d2] }
  | _ => none }
def flowBehindRow : OpenClaim := { program := "ytpfbfnbffglbkaa", sum := "8fd0e005a6fd9126cdaa3827636c4ea9d7d9332777bc6aafdc863c0f7830566f", func := "pianola/pianolalaw08.FlowBehind", spec := "flowBehind", unfollowed := true, recurses := true, apart := false }
def FlowBehindSaid : Prop := flowBehindRow.holds Try.pinned (OpenSpec.ofChange flowBehindSpec)

/-- ITS FALSE NEIGHBOUR: 'it returns false'. Refute it at one input. -/
def flowBehindWrong : ChangeSpec := { name := "flowBehind", fn := fun _ => fun
  | [d1, d2] => { results := [.lit (.bool false)], args := [d1, d2] }
  | _ => none }
def FlowBehindWrongFalsely : Prop := flowBehindRow.holds Try.pinned (OpenSpec.ofChange flowBehindWrong)

/-- 'pianolalaw08.FlowParts': WHATEVER THE INPUT: true; the input reads as it did. -/
def flowPartsSpec : ChangeSpec := { name := "flowParts", fn := fun _ => fun
  | [d1, d2] => { results := [.lit (.bool true)], args := [d1, d2] }
  | _ => none }
def flowPartsRow : OpenClaim := { program := "ytpfbfnbffglbkaa", sum := "8fd0e005a6fd9126cdaa3827636c4ea9d7d9332777bc6aafdc863c0f7830566f", func := "pianola/pianolalaw08.FlowParts", spec := "flowParts", unfollowed := true, recurses := true, apart := false }
def FlowPartsSaid : Prop := flowPartsRow.holds Try.pinned (OpenSpec.ofChange flowPartsSpec)

/-- ITS FALSE NEIGHBOUR: 'it returns false'. Refute it at one input. -/
def flowPartsWrong : ChangeSpec := { name := "flowParts", fn := fun _ => fun
  | [d1, d2] => { results := [.lit (.bool false)], args := [d1, d2] }
  | _ => none }
def FlowPartsWrongFalsely : Prop := flowPartsRow.holds Try.pinned (OpenSpec.ofChange flowPartsWrong)

/-- 'pianolalaw08.FlowReaches': WHATEVER THE INPUT: true; the input reads as it did. -/
def flowReachesSpec : ChangeSpec := { name := "flowReaches", fn := fun _ => fun
  | [d] => { results := [.lit (.bool true)], args := [d] }
  | _ => none }
def flowReachesRow : OpenClaim := { program := "ytpfbfnbffglbkaa", sum := "8fd0e005a6fd9126cdaa3827636c4ea9d7d9332777bc6aafdc863c0f7830566f", func := "pianola/pianolalaw08.FlowReaches", spec := "flowReaches", unfollowed := true, recurses := true, apart := false }
def FlowReachesSaid : Prop := flowReachesRow.holds Try.pinned (OpenSpec.ofChange flowReachesSpec)

/-- ITS FALSE NEIGHBOUR: 'it returns false'. Refute it at one input. -/
def flowReachesWrong : ChangeSpec := { name := "flowReaches", fn := fun _ => fun
  | [d] => { results := [.lit (.bool false)], args := [d] }
  | _ => none }
def FlowReachesWrongFalsely : Prop := flowReachesRow.holds Try.pinned (OpenSpec.ofChange flowReachesWrong)

/-- 'pianolalaw10.GasCosts': WHATEVER THE INPUT: true; the input reads as it did. -/
def gasCostsSpec : ChangeSpec := { name := "gasCosts", fn := fun _ => fun
  | [d1, d2, d3, d4, d5] => { results := [.lit (.bool true)], args := [d1, d2, d3, d4, d5] }
  | _ => none }
def gasCostsRow : OpenClaim := { program := "ytpfbfnbffglbkaa", sum := "8fd0e005a6fd9126cdaa3827636c4ea9d7d9332777bc6aafdc863c0f7830566f", func := "pianola/pianolalaw10.GasCosts", spec := "gasCosts", unfollowed := true, recurses := true, apart := false }
def GasCostsSaid : Prop := gasCostsRow.holds Try.pinned (OpenSpec.ofChange gasCostsSpec)

/-- ITS FALSE NEIGHBOUR: 'it returns false'. Refute it at one input. -/
def gasCostsWrong : ChangeSpec := { name := "gasCosts", fn := fun _ => fun
  | [d1, d2, d3, d4, d5] => { results := [.lit (.bool false)], args := [d1, d2, d3, d4, d5] }
  | _ => none }
def GasCostsWrongFalsely : Prop := gasCostsRow.holds Try.pinned (OpenSpec.ofChange gasCostsWrong)

/-- 'pianolalaw10.GasLongest': WHATEVER THE INPUT: true; the input reads as it did. -/
def gasLongestSpec : ChangeSpec := { name := "gasLongest", fn := fun _ => fun
  | [d1, d2] => { results := [.lit (.bool true)], args := [d1, d2] }
  | _ => none }
def gasLongestRow : OpenClaim := { program := "ytpfbfnbffglbkaa", sum := "8fd0e005a6fd9126cdaa3827636c4ea9d7d9332777bc6aafdc863c0f7830566f", func := "pianola/pianolalaw10.GasLongest", spec := "gasLongest", unfollowed := true, recurses := true, apart := false }
def GasLongestSaid : Prop := gasLongestRow.holds Try.pinned (OpenSpec.ofChange gasLongestSpec)

/-- ITS FALSE NEIGHBOUR: 'it returns false'. Refute it at one input. -/
def gasLongestWrong : ChangeSpec := { name := "gasLongest", fn := fun _ => fun
  | [d1, d2] => { results := [.lit (.bool false)], args := [d1, d2] }
  | _ => none }
def GasLongestWrongFalsely : Prop := gasLongestRow.holds Try.pinned (OpenSpec.ofChange gasLongestWrong)

/-- 'pianolalaw10.GasEnds': WHATEVER THE INPUT: true; the input reads as it did. -/
def gasEndsSpec : ChangeSpec := { name := "gasEnds", fn := fun _ => fun
  | [d1, d2] => { results := [.lit (.bool true)], args := [d1, d2] }
  | _ => none }
def gasEndsRow : OpenClaim := { program := "ytpfbfnbffglbkaa", sum := "8fd0e005a6fd9126cdaa3827636c4ea9d7d9332777bc6aafdc863c0f7830566f", func := "pianola/pianolalaw10.GasEnds", spec := "gasEnds", unfollowed := true, recurses := true, apart := false }
def GasEndsSaid : Prop := gasEndsRow.holds Try.pinned (OpenSpec.ofChange gasEndsSpec)

/-- ITS FALSE NEIGHBOUR: 'it returns false'. Refute it at one input. -/
def gasEndsWrong : ChangeSpec := { name := "gasEnds", fn := fun _ => fun
  | [d1, d2] => { results := [.lit (.bool false)], args := [d1, d2] }
  | _ => none }
def GasEndsWrongFalsely : Prop := gasEndsRow.holds Try.pinned (OpenSpec.ofChange gasEndsWrong)

/-- 'pianolalaw10.GasWays': WHATEVER THE INPUT: true; the input reads as it did. -/
def gasWaysSpec : ChangeSpec := { name := "gasWays", fn := fun _ => fun
  | [d1, d2, d3] => { results := [.lit (.bool true)], args := [d1, d2, d3] }
  | _ => none }
def gasWaysRow : OpenClaim := { program := "ytpfbfnbffglbkaa", sum := "8fd0e005a6fd9126cdaa3827636c4ea9d7d9332777bc6aafdc863c0f7830566f", func := "pianola/pianolalaw10.GasWays", spec := "gasWays", unfollowed := true, recurses := true, apart := false }
def GasWaysSaid : Prop := gasWaysRow.holds Try.pinned (OpenSpec.ofChange gasWaysSpec)

/-- ITS FALSE NEIGHBOUR: 'it returns false'. Refute it at one input. -/
def gasWaysWrong : ChangeSpec := { name := "gasWays", fn := fun _ => fun
  | [d1, d2, d3] => { results := [.lit (.bool false)], args := [d1, d2, d3] }
  | _ => none }
def GasWaysWrongFalsely : Prop := gasWaysRow.holds Try.pinned (OpenSpec.ofChange gasWaysWrong)

/- THE SECOND FORM. 'bulk': how many values and letters a reading holds, each counted each time it is reached (what is shared counts as often as it is met; a slice's spare places count too). A statement '..UptoSaid' is the law's where the arguments, and the package variables that the reading takes, are together of bulk at most 1048576: NARROWER than '..Said'. Prove '..Said' where nothing that the law and all that it calls make is longer than what came in: it says more and counts as full. Else prove '..UptoSaid'. A law counts once. -/
mutual
def uptoBulk {H : Type} : DataW H → Nat
  | .lit (.string bytes) => bytes.length + 1
  | .lit _ => 1
  | .nil => 1
  | .ptr d => uptoBulk d + 1
  | .slice elems spare => uptoBulkAll elems + uptoBulkAll spare + 1
  | .agg parts => uptoBulkAll parts + 1
  | .iface _ d => uptoBulk d + 1
  | .map entries => uptoBulkEntries entries + 1
  | .held _ => 1
def uptoBulkAll {H : Type} : List (DataW H) → Nat
  | [] => 0
  | d :: r => uptoBulk d + uptoBulkAll r
def uptoBulkEntries {H : Type} : List (Lit × DataW H) → Nat
  | [] => 0
  | x :: r => uptoBulkEntry x + uptoBulkEntries r
def uptoBulkEntry {H : Type} : Lit × DataW H → Nat
  | (.string bytes, d) => bytes.length + uptoBulk d + 1
  | (_, d) => uptoBulk d + 1
 end
def uptoSmall : (H : Type) → List (DataW H) → Bool := fun _ ds => decide (uptoBulkAll ds ≤ 1048576)
def OpenSpec.upto (s : _root_.Go.ChangeSpec) : _root_.Go.OpenSpec := { _root_.Go.OpenSpec.ofChange s with cond := some uptoSmall }

/-- 'pianolalaw08.FlowBlocks', WHERE WHAT IT READS IS OF BULK AT MOST 1048576: true; the input reads as it did. -/
def flowBlocksUptoRow : OpenClaim := { program := "ytpfbfnbffglbkaa", sum := "8fd0e005a6fd9126cdaa3827636c4ea9d7d9332777bc6aafdc863c0f7830566f", func := "pianola/pianolalaw08.FlowBlocks", spec := "flowBlocks", unfollowed := true, recurses := true, apart := false, narrowed := true }
def FlowBlocksUptoSaid : Prop := flowBlocksUptoRow.holds Try.pinned (OpenSpec.upto flowBlocksSpec)

/-- 'pianolalaw08.FlowWalks', WHERE WHAT IT READS IS OF BULK AT MOST 1048576: true; the input reads as it did. -/
def flowWalksUptoRow : OpenClaim := { program := "ytpfbfnbffglbkaa", sum := "8fd0e005a6fd9126cdaa3827636c4ea9d7d9332777bc6aafdc863c0f7830566f", func := "pianola/pianolalaw08.FlowWalks", spec := "flowWalks", unfollowed := true, recurses := true, apart := false, narrowed := true }
def FlowWalksUptoSaid : Prop := flowWalksUptoRow.holds Try.pinned (OpenSpec.upto flowWalksSpec)

/-- 'pianolalaw08.FlowOver', WHERE WHAT IT READS IS OF BULK AT MOST 1048576: true; the input reads as it did. -/
def flowOverUptoRow : OpenClaim := { program := "ytpfbfnbffglbkaa", sum := "8fd0e005a6fd9126cdaa3827636c4ea9d7d9332777bc6aafdc863c0f7830566f", func := "pianola/pianolalaw08.FlowOver", spec := "flowOver", unfollowed := true, recurses := true, apart := false, narrowed := true }
def FlowOverUptoSaid : Prop := flowOverUptoRow.holds Try.pinned (OpenSpec.upto flowOverSpec)

/-- 'pianolalaw08.FlowBehind', WHERE WHAT IT READS IS OF BULK AT MOST 1048576: true; the input reads as it did. -/
def flowBehindUptoRow : OpenClaim := { program := "ytpfbfnbffglbkaa", sum := "8fd0e005a6fd9126cdaa3827636c4ea9d7d9332777bc6aafdc863c0f7830566f", func := "pianola/pianolalaw08.FlowBehind", spec := "flowBehind", unfollowed := true, recurses := true, apart := false, narrowed := true }
def FlowBehindUptoSaid : Prop := flowBehindUptoRow.holds Try.pinned (OpenSpec.upto flowBehindSpec)

/-- 'pianolalaw08.FlowParts', WHERE WHAT IT READS IS OF BULK AT MOST 1048576: true; the input reads as it did. -/
def flowPartsUptoRow : OpenClaim := { program := "ytpfbfnbffglbkaa", sum := "8fd0e005a6fd9126cdaa3827636c4ea9d7d9332777bc6aafdc863c0f7830566f", func := "pianola/pianolalaw08.FlowParts", spec := "flowParts", unfollowed := true, recurses := true, apart := false, narrowed := true }
def FlowPartsUptoSaid : Prop := flowPartsUptoRow.holds Try.pinned (OpenSpec.upto flowPartsSpec)

/-- 'pianolalaw08.FlowReaches', WHERE WHAT IT READS IS OF BULK AT MOST 1048576: true; the input reads as it did. -/
def flowReachesUptoRow : OpenClaim := { program := "ytpfbfnbffglbkaa", sum := "8fd0e005a6fd9126cdaa3827636c4ea9d7d9332777bc6aafdc863c0f7830566f", func := "pianola/pianolalaw08.FlowReaches", spec := "flowReaches", unfollowed := true, recurses := true, apart := false, narrowed := true }
def FlowReachesUptoSaid : Prop := flowReachesUptoRow.holds Try.pinned (OpenSpec.upto flowReachesSpec)

/-- 'pianolalaw10.GasCosts', WHERE WHAT IT READS IS OF BULK AT MOST 1048576: true; the input reads as it did. -/
def gasCostsUptoRow : OpenClaim := { program := "ytpfbfnbffglbkaa", sum := "8fd0e005a6fd9126cdaa3827636c4ea9d7d9332777bc6aafdc863c0f7830566f", func := "pianola/pianolalaw10.GasCosts", spec := "gasCosts", unfollowed := true, recurses := true, apart := false, narrowed := true }
def GasCostsUptoSaid : Prop := gasCostsUptoRow.holds Try.pinned (OpenSpec.upto gasCostsSpec)

/-- 'pianolalaw10.GasLongest', WHERE WHAT IT READS IS OF BULK AT MOST 1048576: true; the input reads as it did. -/
def gasLongestUptoRow : OpenClaim := { program := "ytpfbfnbffglbkaa", sum := "8fd0e005a6fd9126cdaa3827636c4ea9d7d9332777bc6aafdc863c0f7830566f", func := "pianola/pianolalaw10.GasLongest", spec := "gasLongest", unfollowed := true, recurses := true, apart := false, narrowed := true }
def GasLongestUptoSaid : Prop := gasLongestUptoRow.holds Try.pinned (OpenSpec.upto gasLongestSpec)

/-- 'pianolalaw10.GasEnds', WHERE WHAT IT READS IS OF BULK AT MOST 1048576: true; the input reads as it did. -/
def gasEndsUptoRow : OpenClaim := { program := "ytpfbfnbffglbkaa", sum := "8fd0e005a6fd9126cdaa3827636c4ea9d7d9332777bc6aafdc863c0f7830566f", func := "pianola/pianolalaw10.GasEnds", spec := "gasEnds", unfollowed := true, recurses := true, apart := false, narrowed := true }
def GasEndsUptoSaid : Prop := gasEndsUptoRow.holds Try.pinned (OpenSpec.upto gasEndsSpec)

/-- 'pianolalaw10.GasWays', WHERE WHAT IT READS IS OF BULK AT MOST 1048576: true; the input reads as it did. -/
def gasWaysUptoRow : OpenClaim := { program := "ytpfbfnbffglbkaa", sum := "8fd0e005a6fd9126cdaa3827636c4ea9d7d9332777bc6aafdc863c0f7830566f", func := "pianola/pianolalaw10.GasWays", spec := "gasWays", unfollowed := true, recurses := true, apart := false, narrowed := true }
def GasWaysUptoSaid : Prop := gasWaysUptoRow.holds Try.pinned (OpenSpec.upto gasWaysSpec)

end Rows
end Go.Proofs.Ytpfbfnbffglbkaa
