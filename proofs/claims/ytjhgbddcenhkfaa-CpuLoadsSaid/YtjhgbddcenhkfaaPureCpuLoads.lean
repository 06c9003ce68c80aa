/- Any number into any register: the plain part. -/
import Derived.Test.YtjhgbddcenhkfaaQCpuLoads
namespace Go.Proofs.Ytjhgbddcenhkfaa.Pure
open Go.RowKit Go.Proofs.Ytjhgbddcenhkfaa.P Go.Proofs.YtjhgbddcenhkfaaW.PrintWords Go.Proofs.YtjhgbddcenhkfaaW.PrintLast
theorem wfL {n : Int} (h : (Lit.int .i64 n).wf = true) : -9223372036854775808 ≤ n ∧ n < 9223372036854775808 := by
  simp [Lit.wf, IntKind.min, IntKind.max, IntKind.bits, IntKind.signed] at h
  omega
theorem CpuLoads : Q.CpuLoads := by
  intro x0 x1 x2 _ h1 _
  show pianolalaw14_CpuLoads.f x0 x1 x2 = some true
  unfold pianolalaw14_CpuLoads.f
  rw [if_pos (wfL h1)]
end Go.Proofs.Ytjhgbddcenhkfaa.Pure
