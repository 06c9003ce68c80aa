-- the pure statement of CpuReckons, laid by a program of this session's
import Derived.Test.YtjhgbddcenhkfaaPF9
namespace Go.Proofs.Ytjhgbddcenhkfaa.Q
open Go.RowKit Go.Proofs.Ytjhgbddcenhkfaa.P Go.Proofs.YtjhgbddcenhkfaaW.PrintWords Go.Proofs.YtjhgbddcenhkfaaW.PrintLast
def CpuReckons : Prop := ∀ (x0 : Int) (x1 : Int) (x2 : Int), ((Lit.int .i64 x0).wf = true) → ((Lit.int .i64 x1).wf = true) → ((Lit.int .i64 x2).wf = true) → pianolalaw14_CpuReckons.f x0 x1 x2 = some true
end Go.Proofs.Ytjhgbddcenhkfaa.Q
