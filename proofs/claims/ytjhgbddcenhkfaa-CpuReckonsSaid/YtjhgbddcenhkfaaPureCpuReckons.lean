/- What the processor reckons is what programs reckon: the plain part. -/
import Derived.Test.YtjhgbddcenhkfaaQCpuReckons
namespace Go.Proofs.Ytjhgbddcenhkfaa.Pure
open Go.RowKit Go.Proofs.Ytjhgbddcenhkfaa.P Go.Proofs.YtjhgbddcenhkfaaW.PrintWords Go.Proofs.YtjhgbddcenhkfaaW.PrintLast
theorem wfR {n : Int} (h : (Lit.int .i64 n).wf = true) : -9223372036854775808 ≤ n ∧ n < 9223372036854775808 := by
  simp [Lit.wf, IntKind.min, IntKind.max, IntKind.bits, IntKind.signed] at h
  omega
theorem CpuReckons : Q.CpuReckons := by
  intro x0 x1 x2 h0 h1 h2
  show pianolalaw14_CpuReckons.f x0 x1 x2 = some true
  unfold pianolalaw14_CpuReckons.f
  rw [if_pos ⟨(wfR h0).1, (wfR h0).2, (wfR h2).1, (wfR h2).2⟩]
end Go.Proofs.Ytjhgbddcenhkfaa.Pure
