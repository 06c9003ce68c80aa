-- the pure statement of ModuleSame, laid by a program of this session's
import Derived.Test.YtjkjpmfenillcaaPF4
namespace Go.Proofs.Ytjkjpmfenillcaa.Q
open Go.RowKit Go.Proofs.Ytjkjpmfenillcaa.P Go.Proofs.YtjkjpmfenillcaaW.PrintWords Go.Proofs.YtjkjpmfenillcaaW.PrintLast
def ModuleSame : Prop := ∀ (x0 : S27) (x1 : S27), (((∀ y_x0_f0 ∈ x0.f0, (Lit.int .i64 y_x0_f0).wf = true) ∧ x0.f0.length * 8 ≤ reachBytes) ∧ ((∀ y_x0_f1 ∈ x0.f1, ((Lit.int .i64 y_x0_f1.f0).wf = true) ∧ ((Lit.int .i64 y_x0_f1.f1).wf = true) ∧ ((∀ y_y_x0_f1_f2 ∈ y_x0_f1.f2, (Lit.int .u8 y_y_x0_f1_f2).wf = true) ∧ y_x0_f1.f2.length * 1 ≤ reachBytes)) ∧ x0.f1.length * 40 ≤ reachBytes)) → (((∀ y_x1_f0 ∈ x1.f0, (Lit.int .i64 y_x1_f0).wf = true) ∧ x1.f0.length * 8 ≤ reachBytes) ∧ ((∀ y_x1_f1 ∈ x1.f1, ((Lit.int .i64 y_x1_f1.f0).wf = true) ∧ ((Lit.int .i64 y_x1_f1.f1).wf = true) ∧ ((∀ y_y_x1_f1_f2 ∈ y_x1_f1.f2, (Lit.int .u8 y_y_x1_f1_f2).wf = true) ∧ y_x1_f1.f2.length * 1 ≤ reachBytes)) ∧ x1.f1.length * 40 ≤ reachBytes)) → pianolalaw06_ModuleSame.f x0.f0 x0.f1 x1.f0 x1.f1 = some true
end Go.Proofs.Ytjkjpmfenillcaa.Q
