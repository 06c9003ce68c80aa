/- Registers, places and memory that are set: the plain part. -/
import Derived.Test.YtjhgbddcenhkfaaQCpuSets
namespace Go.Proofs.Ytjhgbddcenhkfaa.Pure
open Go.RowKit Go.Proofs.Ytjhgbddcenhkfaa.P Go.Proofs.YtjhgbddcenhkfaaW.PrintWords Go.Proofs.YtjhgbddcenhkfaaW.PrintLast
theorem CpuSets : Q.CpuSets := by
  intro x0 x1 x2 x3 _ _ h2 _
  unfold pianolalaw14_CpuSets.f
  rw [if_pos]
  simp [Lit.wf, IntKind.min, IntKind.max, IntKind.bits, IntKind.signed] at h2
  omega
end Go.Proofs.Ytjhgbddcenhkfaa.Pure
