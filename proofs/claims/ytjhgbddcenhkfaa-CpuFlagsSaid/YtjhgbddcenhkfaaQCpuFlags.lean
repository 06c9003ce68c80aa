-- the pure statement of CpuFlags, laid by a program of this session's
import Derived.Test.YtjhgbddcenhkfaaPF3
import Derived.Test.YtjhgbddcenhkfaaK23
namespace Go.Proofs.Ytjhgbddcenhkfaa.Q
open Go.RowKit Go.Proofs.Ytjhgbddcenhkfaa.P Go.Proofs.YtjhgbddcenhkfaaW.PrintWords Go.Proofs.YtjhgbddcenhkfaaW.PrintLast
def CpuFlags : Prop := ∀ (x0 : Int) (x1 : Int) (x2 : Int) (x3 : S23), ((Lit.int .i64 x0).wf = true) → ((Lit.int .i64 x1).wf = true) → ((Lit.int .i64 x2).wf = true) → ((True) ∧ (True) ∧ (True) ∧ (True)) → ∃ k, pianolalaw14_CpuFlags.f k x0 x1 x2 x3.f0 x3.f1 x3.f2 x3.f3 = some true
end Go.Proofs.Ytjhgbddcenhkfaa.Q
