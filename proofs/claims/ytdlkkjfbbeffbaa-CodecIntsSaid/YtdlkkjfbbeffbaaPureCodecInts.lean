/- Three numbers, written and read: the plain part. -/
import Derived.Test.YtdlkkjfbbeffbaaQCodecInts
namespace Go.Proofs.Ytdlkkjfbbeffbaa.Pure
open Go.RowKit Go.Proofs.Ytdlkkjfbbeffbaa.P Go.Proofs.YtdlkkjfbbeffbaaW.PrintWords Go.Proofs.YtdlkkjfbbeffbaaW.PrintLast
theorem CodecInts : Q.CodecInts := by
  intro x0 h0
  have h : -9223372036854775808 ≤ x0 ∧ x0 < 9223372036854775808 := by
    simp [Lit.wf, IntKind.min, IntKind.max, IntKind.bits, IntKind.signed] at h0
    omega
  unfold pianolalaw01_CodecInts.f
  rw [if_pos h]
end Go.Proofs.Ytdlkkjfbbeffbaa.Pure
