-- the pure statement of EncodeAll, laid by a program of this session's
import Derived.Test.YtndedmkjmahohaaPF12
namespace Go.Proofs.Ytndedmkjmahohaa.Q
open Go.RowKit Go.Proofs.Ytndedmkjmahohaa.P Go.Proofs.YtndedmkjmahohaaW.PrintWords Go.Proofs.YtndedmkjmahohaaW.PrintLast
def EncodeAll : Prop := ∀ (x0 : List (S55)), ((∀ y_x0 ∈ x0, ((Lit.int .i64 y_x0.f0).wf = true) ∧ ((Lit.int .i64 y_x0.f1).wf = true) ∧ ((Lit.int .i64 y_x0.f2).wf = true) ∧ ((Lit.int .i64 y_x0.f3).wf = true) ∧ ((Lit.int .i64 y_x0.f4).wf = true) ∧ ((Lit.int .i64 y_x0.f5).wf = true) ∧ ((Lit.int .i64 y_x0.f6).wf = true) ∧ ((Lit.int .i64 y_x0.f7).wf = true)) ∧ x0.length * 64 ≤ reachBytes) → ∃ k, pianolalaw12_EncodeAll.f k x0 = some true
end Go.Proofs.Ytndedmkjmahohaa.Q
