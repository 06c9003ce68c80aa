-- the pure statement of InstrNames, laid by a program of this session's
import Derived.Test.YtndedmkjmahohaaPF3
namespace Go.Proofs.Ytndedmkjmahohaa.Q
open Go.RowKit Go.Proofs.Ytndedmkjmahohaa.P Go.Proofs.YtndedmkjmahohaaW.PrintWords Go.Proofs.YtndedmkjmahohaaW.PrintLast
def InstrNames : Prop := ∀ (x0 : Int) (x1 : Int), ((Lit.int .i64 x0).wf = true) → ((Lit.int .i64 x1).wf = true) → ∃ k, pianolalaw05_InstrNames.f k x0 x1 = some true
end Go.Proofs.Ytndedmkjmahohaa.Q
