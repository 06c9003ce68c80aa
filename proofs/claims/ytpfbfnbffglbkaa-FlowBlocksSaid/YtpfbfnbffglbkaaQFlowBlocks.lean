-- the pure statement of FlowBlocks, laid by a program of this session's
import Derived.Test.YtpfbfnbffglbkaaPF3
namespace Go.Proofs.Ytpfbfnbffglbkaa.Q
open Go.RowKit Go.Proofs.Ytpfbfnbffglbkaa.P Go.Proofs.YtpfbfnbffglbkaaW.PrintWords Go.Proofs.YtpfbfnbffglbkaaW.PrintLast
def FlowBlocks : Prop := ∀ (x0 : List (S34)) (x1 : List Int), ((∀ y_x0 ∈ x0, ((Lit.int .i64 y_x0.f0).wf = true) ∧ ((Lit.int .i64 y_x0.f1).wf = true)) ∧ x0.length * 16 ≤ reachBytes) → ((∀ y_x1 ∈ x1, (Lit.int .i64 y_x1).wf = true) ∧ x1.length * 8 ≤ reachBytes) → ∃ k, pianolalaw08_FlowBlocks.f k x0 x1 = some true
end Go.Proofs.Ytpfbfnbffglbkaa.Q
