/- Whether two modules are the same: the plain part. -/
import Derived.Test.YtjkjpmfenillcaaQModuleSame
set_option linter.unusedVariables false
set_option linter.unusedSimpArgs false
namespace Go.Proofs.Ytjkjpmfenillcaa.Pure
open Go.RowKit Go.Proofs.Ytjkjpmfenillcaa.P Go.Proofs.YtjkjpmfenillcaaW.PrintWords Go.Proofs.YtjkjpmfenillcaaW.PrintLast
theorem ModuleSame : Q.ModuleSame := by
  intro x0 x1 h0 h1
  unfold pianolalaw06_ModuleSame.f
  rw [if_pos]
  rw [okMod_of x0.f0 x0.f1 h0.1.1 h0.1.2 (fun y hy => (h0.2.1 y hy).2.2.1) h0.2.2, okMod_of x1.f0 x1.f1 h1.1.1 h1.1.2 (fun y hy => (h1.2.1 y hy).2.2.1) h1.2.2]
  rfl
end Go.Proofs.Ytjkjpmfenillcaa.Pure
