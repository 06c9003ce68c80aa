-- the pure statement of GasEnds, laid by a program of this session's
import Derived.Test.YtpfbfnbffglbkaaPF11
namespace Go.Proofs.Ytpfbfnbffglbkaa.Q
open Go.RowKit Go.Proofs.Ytpfbfnbffglbkaa.P Go.Proofs.YtpfbfnbffglbkaaW.PrintWords Go.Proofs.YtpfbfnbffglbkaaW.PrintLast
def GasEnds : Prop := ∀ (x0 : Int) (x1 : List Int), ((Lit.int .i64 x0).wf = true) → ((∀ y_x1 ∈ x1, (Lit.int .i64 y_x1).wf = true) ∧ x1.length * 8 ≤ reachBytes) → ∃ k, pianolalaw10_GasEnds.f k x0 x1 = some true
end Go.Proofs.Ytpfbfnbffglbkaa.Q
