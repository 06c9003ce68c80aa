/- The plain part of FlowBehind. -/
import Derived.Test.YtpfbfnbffglbkaaQFlowBehind
set_option linter.unusedVariables false
set_option linter.unusedSimpArgs false
namespace Go.Proofs.Ytpfbfnbffglbkaa.Pure
open Go.RowKit Go.Proofs.Ytpfbfnbffglbkaa.P Go.Proofs.YtpfbfnbffglbkaaW.PrintWords Go.Proofs.YtpfbfnbffglbkaaW.PrintLast Go.Proofs.YtpfbfnbffglbkaaW.PrintMore
theorem FlowBehind (x0 : List S30) (x1 : Int) (h0 : x0.length ≤ 3600000000000) (h1 : (behR x0 x0.length x0.length 0).length ≤ 1000000000000) : pianolalaw08_FlowBehind.f x0 x1 = some true := by
  unfold pianolalaw08_FlowBehind.f
  rw [if_pos ⟨h0, h1⟩]
end Go.Proofs.Ytpfbfnbffglbkaa.Pure
