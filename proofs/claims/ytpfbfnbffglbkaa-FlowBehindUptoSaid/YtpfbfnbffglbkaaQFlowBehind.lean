-- the pure statement of FlowBehind, laid by a program of this session's
import Derived.Test.YtpfbfnbffglbkaaPF6
namespace Go.Proofs.Ytpfbfnbffglbkaa.Q
open Go.RowKit Go.Proofs.Ytpfbfnbffglbkaa.P Go.Proofs.YtpfbfnbffglbkaaW.PrintWords Go.Proofs.YtpfbfnbffglbkaaW.PrintLast
def FlowBehind : Prop := ∀ (x0 : List (S30)) (x1 : Int), ((∀ y_x0 ∈ x0, ((Lit.int .i64 y_x0.f0).wf = true) ∧ ((Lit.int .i64 y_x0.f1).wf = true) ∧ ((∀ y_y_x0_f2 ∈ y_x0.f2, (Lit.int .i64 y_y_x0_f2).wf = true) ∧ y_x0.f2.length * 8 ≤ reachBytes)) ∧ x0.length * 40 ≤ reachBytes) → ((Lit.int .i64 x1).wf = true) → pianolalaw08_FlowBehind.f x0 x1 = some true
end Go.Proofs.Ytpfbfnbffglbkaa.Q
