/- What any bytes are as a module: the plain part. -/
import Derived.Test.YtjkjpmfenillcaaQModuleReads
set_option linter.unusedVariables false
set_option linter.unusedSimpArgs false
namespace Go.Proofs.Ytjkjpmfenillcaa.Pure
open Go.RowKit Go.Proofs.Ytjkjpmfenillcaa.P Go.Proofs.YtjkjpmfenillcaaW.PrintWords Go.Proofs.YtjkjpmfenillcaaW.PrintLast
theorem ModuleReads : Q.ModuleReads := by
  intro x0 h0
  unfold pianolalaw06_ModuleReads.f
  rw [if_pos]
  unfold okBy
  rw [List.all_eq_true]
  intro v hv
  have := u8_wf (h0.1 v hv)
  rw [Bool.and_eq_true, decide_eq_true_eq, decide_eq_true_eq]
  exact this
end Go.Proofs.Ytjkjpmfenillcaa.Pure
