/-
  No cell of these rows narrows 'for every input' (looked for: loops, veiled, ifaces, maps, wideKeys, modest, calm, conditions, laid).
  DERIVED. THE GIVEN ROWS OF THIS SEAT. 6 by the template 'for every input the law returns true; each argument reads behind the call as it read before'; 0 by the template 'total and deterministic' (their statements: YtjkjpmfenillcaaTotals.lean).
  GIVEN WITH THE SEED: the statements are not yours to turn. If you find one false, say at which input.
  Laid BY PROGRAM, IN A SANDBOX (cutbox-rows.mjs): the forced cells as the released guide's own fill.sh prints them over the translation 50112378a5ff0fd2… (all of the seat's roots in one cut). By AI agents, Wed Nov 11 2026. No macro, syntax, notation, axiom, sorry.
-/
import Derived.Test.YtjkjpmfenillcaaChecked
import GoSem.Claim
import GoSem.ClaimJoined
import GoSem.ClaimMapViews
import Derived.JoinedTies
import Derived.KernelRfl
namespace Go.Proofs.Ytjkjpmfenillcaa
/- THE CELL 'sum', in the pinned program and in every row, IS THE sha256 OF THE DUMP (.gsa) THAT YtjkjpmfenillcaaProg.lean LOADS. Nothing in Lean hashes anything: it is a label: what it is worth is what the hold of that sum in a sandbox is worth. -/
noncomputable def Try.pinned : Pinned := { name := "ytjkjpmfenillcaa", sum := "50112378a5ff0fd29113a26a5d74cb23717d835ad21984d050a5194494c7dcfb", checked := Try.checked }
namespace Rows
def none {H : Type} : Left H := { results := [], args := [] }

/-- 'pianolalaw06.ModuleReads': WHATEVER THE INPUT: true; the input reads as it did. -/
def moduleReadsSpec : ChangeSpec := { name := "moduleReads", fn := fun _ => fun
  | [d] => { results := [.lit (.bool true)], args := [d] }
  | _ => none }
def moduleReadsRow : OpenClaim := { program := "ytjkjpmfenillcaa", sum := "50112378a5ff0fd29113a26a5d74cb23717d835ad21984d050a5194494c7dcfb", func := "pianola/pianolalaw06.ModuleReads", spec := "moduleReads", unfollowed := true, recurses := true, apart := false }
def ModuleReadsSaid : Prop := moduleReadsRow.holds Try.pinned (OpenSpec.ofChange moduleReadsSpec)

/-- ITS FALSE NEIGHBOUR: 'it returns false'. Refute it at one input. -/
def moduleReadsWrong : ChangeSpec := { name := "moduleReads", fn := fun _ => fun
  | [d] => { results := [.lit (.bool false)], args := [d] }
  | _ => none }
def ModuleReadsWrongFalsely : Prop := moduleReadsRow.holds Try.pinned (OpenSpec.ofChange moduleReadsWrong)

/-- 'pianolalaw06.ModuleSame': WHATEVER THE INPUT: true; the input reads as it did. -/
def moduleSameSpec : ChangeSpec := { name := "moduleSame", fn := fun _ => fun
  | [d1, d2] => { results := [.lit (.bool true)], args := [d1, d2] }
  | _ => none }
def moduleSameRow : OpenClaim := { program := "ytjkjpmfenillcaa", sum := "50112378a5ff0fd29113a26a5d74cb23717d835ad21984d050a5194494c7dcfb", func := "pianola/pianolalaw06.ModuleSame", spec := "moduleSame", unfollowed := true, recurses := true, apart := false }
def ModuleSameSaid : Prop := moduleSameRow.holds Try.pinned (OpenSpec.ofChange moduleSameSpec)

/-- ITS FALSE NEIGHBOUR: 'it returns false'. Refute it at one input. -/
def moduleSameWrong : ChangeSpec := { name := "moduleSame", fn := fun _ => fun
  | [d1, d2] => { results := [.lit (.bool false)], args := [d1, d2] }
  | _ => none }
def ModuleSameWrongFalsely : Prop := moduleSameRow.holds Try.pinned (OpenSpec.ofChange moduleSameWrong)

/-- 'pianolalaw06.ModuleFuncs': WHATEVER THE INPUT: true; the input reads as it did. -/
def moduleFuncsSpec : ChangeSpec := { name := "moduleFuncs", fn := fun _ => fun
  | [d1, d2] => { results := [.lit (.bool true)], args := [d1, d2] }
  | _ => none }
def moduleFuncsRow : OpenClaim := { program := "ytjkjpmfenillcaa", sum := "50112378a5ff0fd29113a26a5d74cb23717d835ad21984d050a5194494c7dcfb", func := "pianola/pianolalaw06.ModuleFuncs", spec := "moduleFuncs", unfollowed := true, recurses := true, apart := false }
def ModuleFuncsSaid : Prop := moduleFuncsRow.holds Try.pinned (OpenSpec.ofChange moduleFuncsSpec)

/-- ITS FALSE NEIGHBOUR: 'it returns false'. Refute it at one input. -/
def moduleFuncsWrong : ChangeSpec := { name := "moduleFuncs", fn := fun _ => fun
  | [d1, d2] => { results := [.lit (.bool false)], args := [d1, d2] }
  | _ => none }
def ModuleFuncsWrongFalsely : Prop := moduleFuncsRow.holds Try.pinned (OpenSpec.ofChange moduleFuncsWrong)

/-- 'pianolalaw06.ModuleWhole': WHATEVER THE INPUT: true; the input reads as it did. -/
def moduleWholeSpec : ChangeSpec := { name := "moduleWhole", fn := fun _ => fun
  | [d1, d2] => { results := [.lit (.bool true)], args := [d1, d2] }
  | _ => none }
def moduleWholeRow : OpenClaim := { program := "ytjkjpmfenillcaa", sum := "50112378a5ff0fd29113a26a5d74cb23717d835ad21984d050a5194494c7dcfb", func := "pianola/pianolalaw06.ModuleWhole", spec := "moduleWhole", unfollowed := true, recurses := true, apart := false }
def ModuleWholeSaid : Prop := moduleWholeRow.holds Try.pinned (OpenSpec.ofChange moduleWholeSpec)

/-- ITS FALSE NEIGHBOUR: 'it returns false'. Refute it at one input. -/
def moduleWholeWrong : ChangeSpec := { name := "moduleWhole", fn := fun _ => fun
  | [d1, d2] => { results := [.lit (.bool false)], args := [d1, d2] }
  | _ => none }
def ModuleWholeWrongFalsely : Prop := moduleWholeRow.holds Try.pinned (OpenSpec.ofChange moduleWholeWrong)

/-- 'pianolalaw06.ModulePlaces': WHATEVER THE INPUT: true; the input reads as it did. -/
def modulePlacesSpec : ChangeSpec := { name := "modulePlaces", fn := fun _ => fun
  | [d1, d2] => { results := [.lit (.bool true)], args := [d1, d2] }
  | _ => none }
def modulePlacesRow : OpenClaim := { program := "ytjkjpmfenillcaa", sum := "50112378a5ff0fd29113a26a5d74cb23717d835ad21984d050a5194494c7dcfb", func := "pianola/pianolalaw06.ModulePlaces", spec := "modulePlaces", unfollowed := true, recurses := true, apart := false }
def ModulePlacesSaid : Prop := modulePlacesRow.holds Try.pinned (OpenSpec.ofChange modulePlacesSpec)

/-- ITS FALSE NEIGHBOUR: 'it returns false'. Refute it at one input. -/
def modulePlacesWrong : ChangeSpec := { name := "modulePlaces", fn := fun _ => fun
  | [d1, d2] => { results := [.lit (.bool false)], args := [d1, d2] }
  | _ => none }
def ModulePlacesWrongFalsely : Prop := modulePlacesRow.holds Try.pinned (OpenSpec.ofChange modulePlacesWrong)

/-- 'pianolalaw06.ModuleCodes': WHATEVER THE INPUT: true; the input reads as it did. -/
def moduleCodesSpec : ChangeSpec := { name := "moduleCodes", fn := fun _ => fun
  | [d] => { results := [.lit (.bool true)], args := [d] }
  | _ => none }
def moduleCodesRow : OpenClaim := { program := "ytjkjpmfenillcaa", sum := "50112378a5ff0fd29113a26a5d74cb23717d835ad21984d050a5194494c7dcfb", func := "pianola/pianolalaw06.ModuleCodes", spec := "moduleCodes", unfollowed := true, recurses := true, apart := false }
def ModuleCodesSaid : Prop := moduleCodesRow.holds Try.pinned (OpenSpec.ofChange moduleCodesSpec)

/-- ITS FALSE NEIGHBOUR: 'it returns false'. Refute it at one input. -/
def moduleCodesWrong : ChangeSpec := { name := "moduleCodes", fn := fun _ => fun
  | [d] => { results := [.lit (.bool false)], args := [d] }
  | _ => none }
def ModuleCodesWrongFalsely : Prop := moduleCodesRow.holds Try.pinned (OpenSpec.ofChange moduleCodesWrong)

/- THE SECOND FORM. 'bulk': how many values and letters a reading holds, each counted each time it is reached (what is shared counts as often as it is met; a slice's spare places count too). A statement '..UptoSaid' is the law's where the arguments, and the package variables that the reading takes, are together of bulk at most 1048576: NARROWER than '..Said'. Prove '..Said' where nothing that the law and all that it calls make is longer than what came in: it says more and counts as full. Else prove '..UptoSaid'. A law counts once. -/
mutual
def uptoBulk {H : Type} : DataW H → Nat
  | .lit (.string bytes) => bytes.length + 1
  | .lit _ => 1
  | .nil => 1
  | .ptr d => uptoBulk d + 1
  | .slice elems spare => uptoBulkAll elems + uptoBulkAll spare + 1
  | .agg parts => uptoBulkAll parts + 1
  | .iface _ d => uptoBulk d + 1
  | .map entries => uptoBulkEntries entries + 1
  | .held _ => 1
def uptoBulkAll {H : Type} : List (DataW H) → Nat
  | [] => 0
  | d :: r => uptoBulk d + uptoBulkAll r
def uptoBulkEntries {H : Type} : List (Lit × DataW H) → Nat
  | [] => 0
  | x :: r => uptoBulkEntry x + uptoBulkEntries r
def uptoBulkEntry {H : Type} : Lit × DataW H → Nat
  | (.string bytes, d) => bytes.length + uptoBulk d + 1
  | (_, d) => uptoBulk d + 1
 end
def uptoSmall : (H : Type) → List (DataW H) → Bool := fun _ ds => decide (uptoBulkAll ds ≤ 1048576)
def OpenSpec.upto (s : _root_.Go.ChangeSpec) : _root_.Go.OpenSpec := { _root_.Go.OpenSpec.ofChange s with cond := some uptoSmall }

/-- 'pianolalaw06.ModuleReads', WHERE WHAT IT READS IS OF BULK AT MOST 1048576: true; the input reads as it did. -/
def moduleReadsUptoRow : OpenClaim := { program := "ytjkjpmfenillcaa", sum := "50112378a5ff0fd29113a26a5d74cb23717d835ad21984d050a5194494c7dcfb", func := "pianola/pianolalaw06.ModuleReads", spec := "moduleReads", unfollowed := true, recurses := true, apart := false, narrowed := true }
def ModuleReadsUptoSaid : Prop := moduleReadsUptoRow.holds Try.pinned (OpenSpec.upto moduleReadsSpec)

/-- 'pianolalaw06.ModuleSame', WHERE WHAT IT READS IS OF BULK AT MOST 1048576: true; the input reads as it did. -/
def moduleSameUptoRow : OpenClaim := { program := "ytjkjpmfenillcaa", sum := "50112378a5ff0fd29113a26a5d74cb23717d835ad21984d050a5194494c7dcfb", func := "pianola/pianolalaw06.ModuleSame", spec := "moduleSame", unfollowed := true, recurses := true, apart := false, narrowed := true }
def ModuleSameUptoSaid : Prop := moduleSameUptoRow.holds Try.pinned (OpenSpec.upto moduleSameSpec)

/-- 'pianolalaw06.ModuleFuncs', WHERE WHAT IT READS IS OF BULK AT MOST 1048576: true; the input reads as it did. -/
def moduleFuncsUptoRow : OpenClaim := { program := "ytjkjpmfenillcaa", sum := "50112378a5ff0fd29113a26a5d74cb23717d835ad21984d050a5194494c7dcfb", func := "pianola/pianolalaw06.ModuleFuncs", spec := "moduleFuncs", unfollowed := true, recurses := true, apart := false, narrowed := true }
def ModuleFuncsUptoSaid : Prop := moduleFuncsUptoRow.holds Try.pinned (OpenSpec.upto moduleFuncsSpec)

/-- 'pianolalaw06.ModuleWhole', WHERE WHAT IT READS IS OF BULK AT MOST 1048576: true; the input reads as it did. -/
def moduleWholeUptoRow : OpenClaim := { program := "ytjkjpmfenillcaa", sum := "50112378a5ff0fd29113a26a5d74cb23717d835ad21984d050a5194494c7dcfb", func := "pianola/pianolalaw06.ModuleWhole", spec := "moduleWhole", unfollowed := true, recurses := true, apart := false, narrowed := true }
def ModuleWholeUptoSaid : Prop := moduleWholeUptoRow.holds Try.pinned (OpenSpec.upto moduleWholeSpec)

/-- 'pianolalaw06.ModulePlaces', WHERE WHAT IT READS IS OF BULK AT MOST 1048576: true; the input reads as it did. -/
def modulePlacesUptoRow : OpenClaim := { program := "ytjkjpmfenillcaa", sum := "50112378a5ff0fd29113a26a5d74cb23717d835ad21984d050a5194494c7dcfb", func := "pianola/pianolalaw06.ModulePlaces", spec := "modulePlaces", unfollowed := true, recurses := true, apart := false, narrowed := true }
def ModulePlacesUptoSaid : Prop := modulePlacesUptoRow.holds Try.pinned (OpenSpec.upto modulePlacesSpec)

/-- 'pianolalaw06.ModuleCodes', WHERE WHAT IT READS IS OF BULK AT MOST 1048576: true; the input reads as it did. -/
def moduleCodesUptoRow : OpenClaim := { program := "ytjkjpmfenillcaa", sum := "50112378a5ff0fd29113a26a5d74cb23717d835ad21984d050a5194494c7dcfb", func := "pianola/pianolalaw06.ModuleCodes", spec := "moduleCodes", unfollowed := true, recurses := true, apart := false, narrowed := true }
def ModuleCodesUptoSaid : Prop := moduleCodesUptoRow.holds Try.pinned (OpenSpec.upto moduleCodesSpec)

end Rows
end Go.Proofs.Ytjkjpmfenillcaa
