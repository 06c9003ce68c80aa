/- What any bytes are as a list of pairs: the plain part. -/
import Derived.Test.YtdlkkjfbbeffbaaQCodecTakes
namespace Go.Proofs.Ytdlkkjfbbeffbaa.Pure
open Go.RowKit Go.Proofs.Ytdlkkjfbbeffbaa.P Go.Proofs.YtdlkkjfbbeffbaaW.PrintWords Go.Proofs.YtdlkkjfbbeffbaaW.PrintLast
theorem CodecTakes : Q.CodecTakes := by
  intro x0 h0
  unfold pianolalaw01_CodecTakes.f
  rw [if_pos (okBytes_of x0 h0.1 h0.2)]
end Go.Proofs.Ytdlkkjfbbeffbaa.Pure
