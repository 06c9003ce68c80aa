/- A code is as long as its instructions together: the plain part. -/
import Derived.Test.YtdcjbkhfopdgnaaQInstrSizes
set_option linter.unusedVariables false
set_option linter.unusedSimpArgs false
namespace Go.Proofs.Ytdcjbkhfopdgnaa.Pure
open Go.RowKit Go.Proofs.Ytdcjbkhfopdgnaa.P Go.Proofs.YtdcjbkhfopdgnaaW.PrintWords Go.Proofs.YtdcjbkhfopdgnaaW.PrintLast Go.Proofs.YtdcjbkhfopdgnaaW.PrintMore
theorem InstrSizes : Q.InstrSizes := by
  intro x0 h0
  unfold pianolalaw05_InstrSizes.f
  rw [if_pos]
  have := h0.2
  unfold reachBytes at this
  omega
end Go.Proofs.Ytdcjbkhfopdgnaa.Pure
