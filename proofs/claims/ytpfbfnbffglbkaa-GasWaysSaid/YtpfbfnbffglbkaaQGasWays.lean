-- the pure statement of GasWays, laid by a program of this session's
import Derived.Test.YtpfbfnbffglbkaaPF12
namespace Go.Proofs.Ytpfbfnbffglbkaa.Q
open Go.RowKit Go.Proofs.Ytpfbfnbffglbkaa.P Go.Proofs.YtpfbfnbffglbkaaW.PrintWords Go.Proofs.YtpfbfnbffglbkaaW.PrintLast
def GasWays : Prop := ∀ (x0 : List (S30)) (x1 : List Int) (x2 : List Int), ((∀ y_x0 ∈ x0, ((Lit.int .i64 y_x0.f0).wf = true) ∧ ((Lit.int .i64 y_x0.f1).wf = true) ∧ ((∀ y_y_x0_f2 ∈ y_x0.f2, (Lit.int .i64 y_y_x0_f2).wf = true) ∧ y_x0.f2.length * 8 ≤ reachBytes)) ∧ x0.length * 40 ≤ reachBytes) → ((∀ y_x1 ∈ x1, (Lit.int .i64 y_x1).wf = true) ∧ x1.length * 8 ≤ reachBytes) → ((∀ y_x2 ∈ x2, (Lit.int .i64 y_x2).wf = true) ∧ x2.length * 8 ≤ reachBytes) → ∃ k, pianolalaw10_GasWays.f k x0 x1 x2 = some true
end Go.Proofs.Ytpfbfnbffglbkaa.Q
