-- the pure statement of InstrCodes, laid by a program of this session's
import Derived.Test.YtndedmkjmahohaaPF4
namespace Go.Proofs.Ytndedmkjmahohaa.Q
open Go.RowKit Go.Proofs.Ytndedmkjmahohaa.P Go.Proofs.YtndedmkjmahohaaW.PrintWords Go.Proofs.YtndedmkjmahohaaW.PrintLast
def InstrCodes : Prop := ∀ (x0 : List (S39)), ((∀ y_x0 ∈ x0, ((Lit.int .i64 y_x0.f0).wf = true) ∧ ((Lit.int .i64 y_x0.f1).wf = true)) ∧ x0.length * 16 ≤ reachBytes) → ∃ k, pianolalaw05_InstrCodes.f k x0 = some true
end Go.Proofs.Ytndedmkjmahohaa.Q
