/-
  No cell of these rows narrows 'for every input' (looked for: loops, veiled, ifaces, maps, wideKeys, modest, calm, conditions, laid).
  DERIVED. THE GIVEN ROWS OF THIS SEAT. 8 by the template 'for every input the law returns true; each argument reads behind the call as it read before'; 0 by the template 'total and deterministic' (their statements: YtjhgbddcenhkfaaTotals.lean).
  GIVEN WITH THE SEED: the statements are not yours to turn. If you find one false, say at which input.
  Laid BY PROGRAM, IN A SANDBOX (cutbox-rows.mjs): the forced cells as the released guide's own fill.sh prints them over the translation 68bd17b81d00476b… (all of the seat's roots in one cut). By AI agents, Wed Nov 11 2026. No macro, syntax, notation, axiom, sorry.
-/
import Derived.Test.YtjhgbddcenhkfaaChecked
import GoSem.Claim
import GoSem.ClaimJoined
import GoSem.ClaimMapViews
import Derived.JoinedTies
import Derived.KernelRfl
namespace Go.Proofs.Ytjhgbddcenhkfaa
/- THE CELL 'sum', in the pinned program and in every row, IS THE sha256 OF THE DUMP (.gsa) THAT YtjhgbddcenhkfaaProg.lean LOADS. Nothing in Lean hashes anything: it is a label: what it is worth is what the hold of that sum in a sandbox is worth. -/
noncomputable def Try.pinned : Pinned := { name := "ytjhgbddcenhkfaa", sum := "68bd17b81d00476b2cf164b00414a535b4a178530cc6ccb99306687c1b6b5e04", checked := Try.checked }
namespace Rows
def none {H : Type} : Left H := { results := [], args := [] }

/-- 'pianolalaw14.CpuFlags': WHATEVER THE INPUT: true; the input reads as it did. -/
def cpuFlagsSpec : ChangeSpec := { name := "cpuFlags", fn := fun _ => fun
  | [d1, d2, d3, d4] => { results := [.lit (.bool true)], args := [d1, d2, d3, d4] }
  | _ => none }
def cpuFlagsRow : OpenClaim := { program := "ytjhgbddcenhkfaa", sum := "68bd17b81d00476b2cf164b00414a535b4a178530cc6ccb99306687c1b6b5e04", func := "pianola/pianolalaw14.CpuFlags", spec := "cpuFlags", apart := false }
def CpuFlagsSaid : Prop := cpuFlagsRow.holds Try.pinned (OpenSpec.ofChange cpuFlagsSpec)

/-- ITS FALSE NEIGHBOUR: 'it returns false'. Refute it at one input. -/
def cpuFlagsWrong : ChangeSpec := { name := "cpuFlags", fn := fun _ => fun
  | [d1, d2, d3, d4] => { results := [.lit (.bool false)], args := [d1, d2, d3, d4] }
  | _ => none }
def CpuFlagsWrongFalsely : Prop := cpuFlagsRow.holds Try.pinned (OpenSpec.ofChange cpuFlagsWrong)

/-- 'pianolalaw14.CpuSets': WHATEVER THE INPUT: true; the input reads as it did. -/
def cpuSetsSpec : ChangeSpec := { name := "cpuSets", fn := fun _ => fun
  | [d1, d2, d3, d4] => { results := [.lit (.bool true)], args := [d1, d2, d3, d4] }
  | _ => none }
def cpuSetsRow : OpenClaim := { program := "ytjhgbddcenhkfaa", sum := "68bd17b81d00476b2cf164b00414a535b4a178530cc6ccb99306687c1b6b5e04", func := "pianola/pianolalaw14.CpuSets", spec := "cpuSets", apart := false }
def CpuSetsSaid : Prop := cpuSetsRow.holds Try.pinned (OpenSpec.ofChange cpuSetsSpec)

/-- ITS FALSE NEIGHBOUR: 'it returns false'. Refute it at one input. -/
def cpuSetsWrong : ChangeSpec := { name := "cpuSets", fn := fun _ => fun
  | [d1, d2, d3, d4] => { results := [.lit (.bool false)], args := [d1, d2, d3, d4] }
  | _ => none }
def CpuSetsWrongFalsely : Prop := cpuSetsRow.holds Try.pinned (OpenSpec.ofChange cpuSetsWrong)

/-- 'pianolalaw14.CpuSteps': WHATEVER THE INPUT: true; the input reads as it did. -/
def cpuStepsSpec : ChangeSpec := { name := "cpuSteps", fn := fun _ => fun
  | [d1, d2, d3, d4] => { results := [.lit (.bool true)], args := [d1, d2, d3, d4] }
  | _ => none }
def cpuStepsRow : OpenClaim := { program := "ytjhgbddcenhkfaa", sum := "68bd17b81d00476b2cf164b00414a535b4a178530cc6ccb99306687c1b6b5e04", func := "pianola/pianolalaw14.CpuSteps", spec := "cpuSteps", apart := false }
def CpuStepsSaid : Prop := cpuStepsRow.holds Try.pinned (OpenSpec.ofChange cpuStepsSpec)

/-- ITS FALSE NEIGHBOUR: 'it returns false'. Refute it at one input. -/
def cpuStepsWrong : ChangeSpec := { name := "cpuSteps", fn := fun _ => fun
  | [d1, d2, d3, d4] => { results := [.lit (.bool false)], args := [d1, d2, d3, d4] }
  | _ => none }
def CpuStepsWrongFalsely : Prop := cpuStepsRow.holds Try.pinned (OpenSpec.ofChange cpuStepsWrong)

/-- 'pianolalaw14.CpuRuns': WHATEVER THE INPUT: true; the input reads as it did. -/
def cpuRunsSpec : ChangeSpec := { name := "cpuRuns", fn := fun _ => fun
  | [d1, d2, d3] => { results := [.lit (.bool true)], args := [d1, d2, d3] }
  | _ => none }
def cpuRunsRow : OpenClaim := { program := "ytjhgbddcenhkfaa", sum := "68bd17b81d00476b2cf164b00414a535b4a178530cc6ccb99306687c1b6b5e04", func := "pianola/pianolalaw14.CpuRuns", spec := "cpuRuns", apart := false }
def CpuRunsSaid : Prop := cpuRunsRow.holds Try.pinned (OpenSpec.ofChange cpuRunsSpec)

/-- ITS FALSE NEIGHBOUR: 'it returns false'. Refute it at one input. -/
def cpuRunsWrong : ChangeSpec := { name := "cpuRuns", fn := fun _ => fun
  | [d1, d2, d3] => { results := [.lit (.bool false)], args := [d1, d2, d3] }
  | _ => none }
def CpuRunsWrongFalsely : Prop := cpuRunsRow.holds Try.pinned (OpenSpec.ofChange cpuRunsWrong)

/-- 'pianolalaw14.CpuNobody': WHATEVER THE INPUT: true; the input reads as it did. -/
def cpuNobodySpec : ChangeSpec := { name := "cpuNobody", fn := fun _ => fun
  | [d1, d2] => { results := [.lit (.bool true)], args := [d1, d2] }
  | _ => none }
def cpuNobodyRow : OpenClaim := { program := "ytjhgbddcenhkfaa", sum := "68bd17b81d00476b2cf164b00414a535b4a178530cc6ccb99306687c1b6b5e04", func := "pianola/pianolalaw14.CpuNobody", spec := "cpuNobody", apart := false }
def CpuNobodySaid : Prop := cpuNobodyRow.holds Try.pinned (OpenSpec.ofChange cpuNobodySpec)

/-- ITS FALSE NEIGHBOUR: 'it returns false'. Refute it at one input. -/
def cpuNobodyWrong : ChangeSpec := { name := "cpuNobody", fn := fun _ => fun
  | [d1, d2] => { results := [.lit (.bool false)], args := [d1, d2] }
  | _ => none }
def CpuNobodyWrongFalsely : Prop := cpuNobodyRow.holds Try.pinned (OpenSpec.ofChange cpuNobodyWrong)

/-- 'pianolalaw14.CpuParts': WHATEVER THE INPUT: true; the input reads as it did. -/
def cpuPartsSpec : ChangeSpec := { name := "cpuParts", fn := fun _ => fun
  | [d1, d2, d3, d4] => { results := [.lit (.bool true)], args := [d1, d2, d3, d4] }
  | _ => none }
def cpuPartsRow : OpenClaim := { program := "ytjhgbddcenhkfaa", sum := "68bd17b81d00476b2cf164b00414a535b4a178530cc6ccb99306687c1b6b5e04", func := "pianola/pianolalaw14.CpuParts", spec := "cpuParts", apart := false }
def CpuPartsSaid : Prop := cpuPartsRow.holds Try.pinned (OpenSpec.ofChange cpuPartsSpec)

/-- ITS FALSE NEIGHBOUR: 'it returns false'. Refute it at one input. -/
def cpuPartsWrong : ChangeSpec := { name := "cpuParts", fn := fun _ => fun
  | [d1, d2, d3, d4] => { results := [.lit (.bool false)], args := [d1, d2, d3, d4] }
  | _ => none }
def CpuPartsWrongFalsely : Prop := cpuPartsRow.holds Try.pinned (OpenSpec.ofChange cpuPartsWrong)

/-- 'pianolalaw14.CpuReckons': WHATEVER THE INPUT: true; the input reads as it did. -/
def cpuReckonsSpec : ChangeSpec := { name := "cpuReckons", fn := fun _ => fun
  | [d1, d2, d3] => { results := [.lit (.bool true)], args := [d1, d2, d3] }
  | _ => none }
def cpuReckonsRow : OpenClaim := { program := "ytjhgbddcenhkfaa", sum := "68bd17b81d00476b2cf164b00414a535b4a178530cc6ccb99306687c1b6b5e04", func := "pianola/pianolalaw14.CpuReckons", spec := "cpuReckons", apart := false }
def CpuReckonsSaid : Prop := cpuReckonsRow.holds Try.pinned (OpenSpec.ofChange cpuReckonsSpec)

/-- ITS FALSE NEIGHBOUR: 'it returns false'. Refute it at one input. -/
def cpuReckonsWrong : ChangeSpec := { name := "cpuReckons", fn := fun _ => fun
  | [d1, d2, d3] => { results := [.lit (.bool false)], args := [d1, d2, d3] }
  | _ => none }
def CpuReckonsWrongFalsely : Prop := cpuReckonsRow.holds Try.pinned (OpenSpec.ofChange cpuReckonsWrong)

/-- 'pianolalaw14.CpuLoads': WHATEVER THE INPUT: true; the input reads as it did. -/
def cpuLoadsSpec : ChangeSpec := { name := "cpuLoads", fn := fun _ => fun
  | [d1, d2, d3] => { results := [.lit (.bool true)], args := [d1, d2, d3] }
  | _ => none }
def cpuLoadsRow : OpenClaim := { program := "ytjhgbddcenhkfaa", sum := "68bd17b81d00476b2cf164b00414a535b4a178530cc6ccb99306687c1b6b5e04", func := "pianola/pianolalaw14.CpuLoads", spec := "cpuLoads", unfollowed := true, recurses := true, apart := false }
def CpuLoadsSaid : Prop := cpuLoadsRow.holds Try.pinned (OpenSpec.ofChange cpuLoadsSpec)

/-- ITS FALSE NEIGHBOUR: 'it returns false'. Refute it at one input. -/
def cpuLoadsWrong : ChangeSpec := { name := "cpuLoads", fn := fun _ => fun
  | [d1, d2, d3] => { results := [.lit (.bool false)], args := [d1, d2, d3] }
  | _ => none }
def CpuLoadsWrongFalsely : Prop := cpuLoadsRow.holds Try.pinned (OpenSpec.ofChange cpuLoadsWrong)

/- THE SECOND FORM. 'bulk': how many values and letters a reading holds, each counted each time it is reached (what is shared counts as often as it is met; a slice's spare places count too). A statement '..UptoSaid' is the law's where the arguments, and the package variables that the reading takes, are together of bulk at most 1048576: NARROWER than '..Said'. Prove '..Said' where nothing that the law and all that it calls make is longer than what came in: it says more and counts as full. Else prove '..UptoSaid'. A law counts once. -/
mutual
def uptoBulk {H : Type} : DataW H → Nat
  | .lit (.string bytes) => bytes.length + 1
  | .lit _ => 1
  | .nil => 1
  | .ptr d => uptoBulk d + 1
  | .slice elems spare => uptoBulkAll elems + uptoBulkAll spare + 1
  | .agg parts => uptoBulkAll parts + 1
  | .iface _ d => uptoBulk d + 1
  | .map entries => uptoBulkEntries entries + 1
  | .held _ => 1
def uptoBulkAll {H : Type} : List (DataW H) → Nat
  | [] => 0
  | d :: r => uptoBulk d + uptoBulkAll r
def uptoBulkEntries {H : Type} : List (Lit × DataW H) → Nat
  | [] => 0
  | x :: r => uptoBulkEntry x + uptoBulkEntries r
def uptoBulkEntry {H : Type} : Lit × DataW H → Nat
  | (.string bytes, d) => bytes.length + uptoBulk d + 1
  | (_, d) => uptoBulk d + 1
 end
def uptoSmall : (H : Type) → List (DataW H) → Bool := fun _ ds => decide (uptoBulkAll ds ≤ 1048576)
def OpenSpec.upto (s : _root_.Go.ChangeSpec) : _root_.Go.OpenSpec := { _root_.Go.OpenSpec.ofChange s with cond := some uptoSmall }

/-- 'pianolalaw14.CpuFlags', WHERE WHAT IT READS IS OF BULK AT MOST 1048576: true; the input reads as it did. -/
def cpuFlagsUptoRow : OpenClaim := { program := "ytjhgbddcenhkfaa", sum := "68bd17b81d00476b2cf164b00414a535b4a178530cc6ccb99306687c1b6b5e04", func := "pianola/pianolalaw14.CpuFlags", spec := "cpuFlags", apart := false, narrowed := true }
def CpuFlagsUptoSaid : Prop := cpuFlagsUptoRow.holds Try.pinned (OpenSpec.upto cpuFlagsSpec)

/-- 'pianolalaw14.CpuSets', WHERE WHAT IT READS IS OF BULK AT MOST 1048576: true; the input reads as it did. -/
def cpuSetsUptoRow : OpenClaim := { program := "ytjhgbddcenhkfaa", sum := "68bd17b81d00476b2cf164b00414a535b4a178530cc6ccb99306687c1b6b5e04", func := "pianola/pianolalaw14.CpuSets", spec := "cpuSets", apart := false, narrowed := true }
def CpuSetsUptoSaid : Prop := cpuSetsUptoRow.holds Try.pinned (OpenSpec.upto cpuSetsSpec)

/-- 'pianolalaw14.CpuSteps', WHERE WHAT IT READS IS OF BULK AT MOST 1048576: true; the input reads as it did. -/
def cpuStepsUptoRow : OpenClaim := { program := "ytjhgbddcenhkfaa", sum := "68bd17b81d00476b2cf164b00414a535b4a178530cc6ccb99306687c1b6b5e04", func := "pianola/pianolalaw14.CpuSteps", spec := "cpuSteps", apart := false, narrowed := true }
def CpuStepsUptoSaid : Prop := cpuStepsUptoRow.holds Try.pinned (OpenSpec.upto cpuStepsSpec)

/-- 'pianolalaw14.CpuRuns', WHERE WHAT IT READS IS OF BULK AT MOST 1048576: true; the input reads as it did. -/
def cpuRunsUptoRow : OpenClaim := { program := "ytjhgbddcenhkfaa", sum := "68bd17b81d00476b2cf164b00414a535b4a178530cc6ccb99306687c1b6b5e04", func := "pianola/pianolalaw14.CpuRuns", spec := "cpuRuns", apart := false, narrowed := true }
def CpuRunsUptoSaid : Prop := cpuRunsUptoRow.holds Try.pinned (OpenSpec.upto cpuRunsSpec)

/-- 'pianolalaw14.CpuNobody', WHERE WHAT IT READS IS OF BULK AT MOST 1048576: true; the input reads as it did. -/
def cpuNobodyUptoRow : OpenClaim := { program := "ytjhgbddcenhkfaa", sum := "68bd17b81d00476b2cf164b00414a535b4a178530cc6ccb99306687c1b6b5e04", func := "pianola/pianolalaw14.CpuNobody", spec := "cpuNobody", apart := false, narrowed := true }
def CpuNobodyUptoSaid : Prop := cpuNobodyUptoRow.holds Try.pinned (OpenSpec.upto cpuNobodySpec)

/-- 'pianolalaw14.CpuParts', WHERE WHAT IT READS IS OF BULK AT MOST 1048576: true; the input reads as it did. -/
def cpuPartsUptoRow : OpenClaim := { program := "ytjhgbddcenhkfaa", sum := "68bd17b81d00476b2cf164b00414a535b4a178530cc6ccb99306687c1b6b5e04", func := "pianola/pianolalaw14.CpuParts", spec := "cpuParts", apart := false, narrowed := true }
def CpuPartsUptoSaid : Prop := cpuPartsUptoRow.holds Try.pinned (OpenSpec.upto cpuPartsSpec)

/-- 'pianolalaw14.CpuReckons', WHERE WHAT IT READS IS OF BULK AT MOST 1048576: true; the input reads as it did. -/
def cpuReckonsUptoRow : OpenClaim := { program := "ytjhgbddcenhkfaa", sum := "68bd17b81d00476b2cf164b00414a535b4a178530cc6ccb99306687c1b6b5e04", func := "pianola/pianolalaw14.CpuReckons", spec := "cpuReckons", apart := false, narrowed := true }
def CpuReckonsUptoSaid : Prop := cpuReckonsUptoRow.holds Try.pinned (OpenSpec.upto cpuReckonsSpec)

/-- 'pianolalaw14.CpuLoads', WHERE WHAT IT READS IS OF BULK AT MOST 1048576: true; the input reads as it did. -/
def cpuLoadsUptoRow : OpenClaim := { program := "ytjhgbddcenhkfaa", sum := "68bd17b81d00476b2cf164b00414a535b4a178530cc6ccb99306687c1b6b5e04", func := "pianola/pianolalaw14.CpuLoads", spec := "cpuLoads", unfollowed := true, recurses := true, apart := false, narrowed := true }
def CpuLoadsUptoSaid : Prop := cpuLoadsUptoRow.holds Try.pinned (OpenSpec.upto cpuLoadsSpec)

end Rows
end Go.Proofs.Ytjhgbddcenhkfaa
