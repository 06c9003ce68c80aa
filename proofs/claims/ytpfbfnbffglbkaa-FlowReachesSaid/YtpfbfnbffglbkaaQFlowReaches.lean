-- the pure statement of FlowReaches, laid by a program of this session's
import Derived.Test.YtpfbfnbffglbkaaPF8
namespace Go.Proofs.Ytpfbfnbffglbkaa.Q
open Go.RowKit Go.Proofs.Ytpfbfnbffglbkaa.P Go.Proofs.YtpfbfnbffglbkaaW.PrintWords Go.Proofs.YtpfbfnbffglbkaaW.PrintLast
def FlowReaches : Prop := ∀ (x0 : List (S30)), ((∀ y_x0 ∈ x0, ((Lit.int .i64 y_x0.f0).wf = true) ∧ ((Lit.int .i64 y_x0.f1).wf = true) ∧ ((∀ y_y_x0_f2 ∈ y_x0.f2, (Lit.int .i64 y_y_x0_f2).wf = true) ∧ y_x0.f2.length * 8 ≤ reachBytes)) ∧ x0.length * 40 ≤ reachBytes) → pianolalaw08_FlowReaches.f x0 = some true
end Go.Proofs.Ytpfbfnbffglbkaa.Q
