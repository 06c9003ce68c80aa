-- the pure statement of GasCosts, laid by a program of this session's
import Derived.Test.YtpfbfnbffglbkaaPF9
namespace Go.Proofs.Ytpfbfnbffglbkaa.Q
open Go.RowKit Go.Proofs.Ytpfbfnbffglbkaa.P Go.Proofs.YtpfbfnbffglbkaaW.PrintWords Go.Proofs.YtpfbfnbffglbkaaW.PrintLast
def GasCosts : Prop := ∀ (x0 : Int) (x1 : List (S34)) (x2 : S30) (x3 : Int) (x4 : Int), ((Lit.int .i64 x0).wf = true) → ((∀ y_x1 ∈ x1, ((Lit.int .i64 y_x1.f0).wf = true) ∧ ((Lit.int .i64 y_x1.f1).wf = true)) ∧ x1.length * 16 ≤ reachBytes) → (((Lit.int .i64 x2.f0).wf = true) ∧ ((Lit.int .i64 x2.f1).wf = true) ∧ ((∀ y_x2_f2 ∈ x2.f2, (Lit.int .i64 y_x2_f2).wf = true) ∧ x2.f2.length * 8 ≤ reachBytes)) → ((Lit.int .i64 x3).wf = true) → ((Lit.int .i64 x4).wf = true) → ∃ k, pianolalaw10_GasCosts.f k x0 x1 x2.f0 x2.f1 x2.f2 x3 x4 = some true
end Go.Proofs.Ytpfbfnbffglbkaa.Q
