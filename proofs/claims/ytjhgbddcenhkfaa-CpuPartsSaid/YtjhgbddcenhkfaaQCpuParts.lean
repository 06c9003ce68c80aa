-- the pure statement of CpuParts, laid by a program of this session's
import Derived.Test.YtjhgbddcenhkfaaPF8
namespace Go.Proofs.Ytjhgbddcenhkfaa.Q
open Go.RowKit Go.Proofs.Ytjhgbddcenhkfaa.P Go.Proofs.YtjhgbddcenhkfaaW.PrintWords Go.Proofs.YtjhgbddcenhkfaaW.PrintLast
def CpuParts : Prop := ∀ (x0 : List Int) (x1 : List Int) (x2 : Int) (x3 : Int), ((∀ y_x0 ∈ x0, (Lit.int .u32 y_x0).wf = true) ∧ x0.length * 4 ≤ reachBytes) → ((∀ y_x1 ∈ x1, (Lit.int .i64 y_x1).wf = true) ∧ x1.length * 8 ≤ reachBytes) → ((Lit.int .i64 x2).wf = true) → ((Lit.int .i64 x3).wf = true) → pianolalaw14_CpuParts.f x0 x1 x2 x3 = some true
end Go.Proofs.Ytjhgbddcenhkfaa.Q
