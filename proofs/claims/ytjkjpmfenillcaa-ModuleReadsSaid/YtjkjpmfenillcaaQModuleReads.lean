-- the pure statement of ModuleReads, laid by a program of this session's
import Derived.Test.YtjkjpmfenillcaaPF3
namespace Go.Proofs.Ytjkjpmfenillcaa.Q
open Go.RowKit Go.Proofs.Ytjkjpmfenillcaa.P Go.Proofs.YtjkjpmfenillcaaW.PrintWords Go.Proofs.YtjkjpmfenillcaaW.PrintLast
def ModuleReads : Prop := ∀ (x0 : List Int), ((∀ y_x0 ∈ x0, (Lit.int .u8 y_x0).wf = true) ∧ x0.length * 1 ≤ reachBytes) → pianolalaw06_ModuleReads.f x0 = some true
end Go.Proofs.Ytjkjpmfenillcaa.Q
