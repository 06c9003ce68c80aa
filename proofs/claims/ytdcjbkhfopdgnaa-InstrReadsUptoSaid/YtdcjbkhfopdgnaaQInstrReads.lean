-- the pure statement of InstrReads, laid by a program of this session's
import Derived.Test.YtdcjbkhfopdgnaaPF10
namespace Go.Proofs.Ytdcjbkhfopdgnaa.Q
open Go.RowKit Go.Proofs.Ytdcjbkhfopdgnaa.P Go.Proofs.YtdcjbkhfopdgnaaW.PrintWords Go.Proofs.YtdcjbkhfopdgnaaW.PrintLast
def InstrReads : Prop := ∀ (x0 : List Int) (x1 : Int), ((∀ y_x0 ∈ x0, (Lit.int .u8 y_x0).wf = true) ∧ x0.length * 1 ≤ reachBytes) → ((Lit.int .i64 x1).wf = true) → ∃ k, pianolalaw05_InstrReads.f k x0 x1 = some true
end Go.Proofs.Ytdcjbkhfopdgnaa.Q
