/- What any bytes are by each of the plain fields: the plain part. -/
import Derived.Test.YtdlkkjfbbeffbaaQCodecReads
namespace Go.Proofs.Ytdlkkjfbbeffbaa.Pure
open Go.RowKit Go.Proofs.Ytdlkkjfbbeffbaa.P Go.Proofs.YtdlkkjfbbeffbaaW.PrintWords Go.Proofs.YtdlkkjfbbeffbaaW.PrintLast
theorem CodecReads : Q.CodecReads := by
  intro x0 h0
  unfold pianolalaw01_CodecReads.f
  rw [if_pos (okBytes_of x0 h0.1 h0.2)]
end Go.Proofs.Ytdlkkjfbbeffbaa.Pure
