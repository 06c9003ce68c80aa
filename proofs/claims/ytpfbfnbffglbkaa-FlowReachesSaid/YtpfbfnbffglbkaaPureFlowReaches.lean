/- A block is reached just if one ahead of it is: the plain part. -/
import Derived.Test.YtpfbfnbffglbkaaQFlowReaches
set_option linter.unusedVariables false
set_option linter.unusedSimpArgs false
namespace Go.Proofs.Ytpfbfnbffglbkaa.Pure
open Go.RowKit Go.Proofs.Ytpfbfnbffglbkaa.P Go.Proofs.YtpfbfnbffglbkaaW.PrintWords Go.Proofs.YtpfbfnbffglbkaaW.PrintLast Go.Proofs.YtpfbfnbffglbkaaW.PrintMore
theorem FlowReaches : Q.FlowReaches := by
  intro x0 h0
  unfold pianolalaw08_FlowReaches.f
  rw [if_pos]
  have := h0.2
  unfold reachBytes at this
  omega
end Go.Proofs.Ytpfbfnbffglbkaa.Pure
