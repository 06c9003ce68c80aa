-- the pure statement of InstrSizes, laid by a program of this session's
import Derived.Test.YtdcjbkhfopdgnaaPF11
namespace Go.Proofs.Ytdcjbkhfopdgnaa.Q
open Go.RowKit Go.Proofs.Ytdcjbkhfopdgnaa.P Go.Proofs.YtdcjbkhfopdgnaaW.PrintWords Go.Proofs.YtdcjbkhfopdgnaaW.PrintLast
def InstrSizes : Prop := ∀ (x0 : List (S58)), ((∀ y_x0 ∈ x0, ((Lit.int .i64 y_x0.f0).wf = true) ∧ ((Lit.int .i64 y_x0.f1).wf = true)) ∧ x0.length * 16 ≤ reachBytes) → pianolalaw05_InstrSizes.f x0 = some true
end Go.Proofs.Ytdcjbkhfopdgnaa.Q
