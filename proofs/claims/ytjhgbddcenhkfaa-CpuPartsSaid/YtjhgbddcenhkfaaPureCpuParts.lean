/- So many steps, and then so many more: the plain part. -/
import Derived.Test.YtjhgbddcenhkfaaQCpuParts
namespace Go.Proofs.Ytjhgbddcenhkfaa.Pure
open Go.RowKit Go.Proofs.Ytjhgbddcenhkfaa.P Go.Proofs.YtjhgbddcenhkfaaW.PrintWords Go.Proofs.YtjhgbddcenhkfaaW.PrintLast
theorem CpuParts : Q.CpuParts := by
  intro x0 x1 x2 x3 _ _ _ _
  rfl
end Go.Proofs.Ytjhgbddcenhkfaa.Pure
