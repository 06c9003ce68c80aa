-- the pure statement of CpuNobody, laid by a program of this session's
import Derived.Test.YtjhgbddcenhkfaaPF7
namespace Go.Proofs.Ytjhgbddcenhkfaa.Q
open Go.RowKit Go.Proofs.Ytjhgbddcenhkfaa.P Go.Proofs.YtjhgbddcenhkfaaW.PrintWords Go.Proofs.YtjhgbddcenhkfaaW.PrintLast
def CpuNobody : Prop := ∀ (x0 : Int) (x1 : Int), ((Lit.int .i64 x0).wf = true) → ((Lit.int .i64 x1).wf = true) → pianolalaw14_CpuNobody.f x0 x1 = some true
end Go.Proofs.Ytjhgbddcenhkfaa.Q
