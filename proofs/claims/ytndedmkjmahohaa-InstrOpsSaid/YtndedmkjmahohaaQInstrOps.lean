-- the pure statement of InstrOps, laid by a program of this session's
import Derived.Test.YtndedmkjmahohaaPF7
namespace Go.Proofs.Ytndedmkjmahohaa.Q
open Go.RowKit Go.Proofs.Ytndedmkjmahohaa.P Go.Proofs.YtndedmkjmahohaaW.PrintWords Go.Proofs.YtndedmkjmahohaaW.PrintLast
def InstrOps : Prop := ∀ (x0 : Int) (x1 : ByteArray), ((Lit.int .i64 x0).wf = true) → (x1.size ≤ reachBytes) → ∃ k, pianolalaw05_InstrOps.f k x0 x1 = some true
end Go.Proofs.Ytndedmkjmahohaa.Q
