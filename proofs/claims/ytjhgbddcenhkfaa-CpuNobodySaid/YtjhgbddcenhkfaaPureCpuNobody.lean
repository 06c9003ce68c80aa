/- A nil processor: the plain part. -/
import Derived.Test.YtjhgbddcenhkfaaQCpuNobody
namespace Go.Proofs.Ytjhgbddcenhkfaa.Pure
open Go.RowKit Go.Proofs.Ytjhgbddcenhkfaa.P Go.Proofs.YtjhgbddcenhkfaaW.PrintWords Go.Proofs.YtjhgbddcenhkfaaW.PrintLast
theorem CpuNobody : Q.CpuNobody := by
  intro x0 x1 _ _
  rfl
end Go.Proofs.Ytjhgbddcenhkfaa.Pure
