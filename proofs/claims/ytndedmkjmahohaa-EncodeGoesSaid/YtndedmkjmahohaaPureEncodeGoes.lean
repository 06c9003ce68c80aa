/- How far the branches reach: the plain part. -/
import Derived.Test.YtndedmkjmahohaaQEncodeGoes
namespace Go.Proofs.Ytndedmkjmahohaa.Pure
open Go.RowKit Go.Proofs.Ytndedmkjmahohaa.P Go.Proofs.YtndedmkjmahohaaW.PrintWords Go.Proofs.YtndedmkjmahohaaW.PrintLast
theorem wfG {n : Int} (h : (Lit.int .i64 n).wf = true) : -9223372036854775808 ≤ n ∧ n < 9223372036854775808 := by
  simp [Lit.wf, IntKind.min, IntKind.max, IntKind.bits, IntKind.signed] at h
  omega
theorem EncodeGoes : Q.EncodeGoes := by
  intro x0 x1 x2 h0 h1 h2
  unfold pianolalaw12_EncodeGoes.f
  rw [if_pos ⟨wfG h0, wfG h1, wfG h2⟩]
end Go.Proofs.Ytndedmkjmahohaa.Pure
