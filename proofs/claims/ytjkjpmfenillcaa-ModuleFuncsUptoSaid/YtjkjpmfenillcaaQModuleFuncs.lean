-- the pure statement of ModuleFuncs, laid by a program of this session's
import Derived.Test.YtjkjpmfenillcaaPF5
namespace Go.Proofs.Ytjkjpmfenillcaa.Q
open Go.RowKit Go.Proofs.Ytjkjpmfenillcaa.P Go.Proofs.YtjkjpmfenillcaaW.PrintWords Go.Proofs.YtjkjpmfenillcaaW.PrintLast
def ModuleFuncs : Prop := ∀ (x0 : S27) (x1 : Int), (((∀ y_x0_f0 ∈ x0.f0, (Lit.int .i64 y_x0_f0).wf = true) ∧ x0.f0.length * 8 ≤ reachBytes) ∧ ((∀ y_x0_f1 ∈ x0.f1, ((Lit.int .i64 y_x0_f1.f0).wf = true) ∧ ((Lit.int .i64 y_x0_f1.f1).wf = true) ∧ ((∀ y_y_x0_f1_f2 ∈ y_x0_f1.f2, (Lit.int .u8 y_y_x0_f1_f2).wf = true) ∧ y_x0_f1.f2.length * 1 ≤ reachBytes)) ∧ x0.f1.length * 40 ≤ reachBytes)) → ((Lit.int .i64 x1).wf = true) → pianolalaw06_ModuleFuncs.f x0.f0 x0.f1 x1 = some true
end Go.Proofs.Ytjkjpmfenillcaa.Q
