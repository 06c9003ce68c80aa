-- the pure statement of CpuLoads, laid by a program of this session's
import Derived.Test.YtjhgbddcenhkfaaPF10
namespace Go.Proofs.Ytjhgbddcenhkfaa.Q
open Go.RowKit Go.Proofs.Ytjhgbddcenhkfaa.P Go.Proofs.YtjhgbddcenhkfaaW.PrintWords Go.Proofs.YtjhgbddcenhkfaaW.PrintLast
def CpuLoads : Prop := ∀ (x0 : Int) (x1 : Int) (x2 : List Int), ((Lit.int .i64 x0).wf = true) → ((Lit.int .i64 x1).wf = true) → ((∀ y_x2 ∈ x2, (Lit.int .i64 y_x2).wf = true) ∧ x2.length * 8 ≤ reachBytes) → pianolalaw14_CpuLoads.f x0 x1 x2 = some true
end Go.Proofs.Ytjhgbddcenhkfaa.Q
