/- The plain part of ModulePlaces. -/
import Derived.Test.YtjkjpmfenillcaaQModulePlaces
set_option linter.unusedVariables false
namespace Go.Proofs.Ytjkjpmfenillcaa.Pure
open Go.RowKit Go.Proofs.Ytjkjpmfenillcaa.P Go.Proofs.YtjkjpmfenillcaaW.PrintWords Go.Proofs.YtjkjpmfenillcaaW.PrintLast
theorem ModulePlaces : Q.ModulePlaces := by
  intro x0 x1 h0 h1
  unfold pianolalaw06_ModulePlaces.f
  rw [if_pos (okMod_of x0.f0 x0.f1 h0.1.1 h0.1.2 (fun y hy => (h0.2.1 y hy).2.2.1) h0.2.2)]
end Go.Proofs.Ytjkjpmfenillcaa.Pure
