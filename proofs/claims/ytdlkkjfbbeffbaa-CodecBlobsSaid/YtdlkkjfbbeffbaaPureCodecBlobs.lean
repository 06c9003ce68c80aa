/- Any bytes as a blob, as a text; they are decoded again: the plain part. -/
import Derived.Test.YtdlkkjfbbeffbaaQCodecBlobs
namespace Go.Proofs.Ytdlkkjfbbeffbaa.Pure
open Go.RowKit Go.Proofs.Ytdlkkjfbbeffbaa.P Go.Proofs.YtdlkkjfbbeffbaaW.PrintWords Go.Proofs.YtdlkkjfbbeffbaaW.PrintLast
theorem CodecBlobs : Q.CodecBlobs := by
  intro x0 h0
  unfold pianolalaw01_CodecBlobs.f
  rw [if_pos (okBytes_of x0 h0.1 h0.2)]
end Go.Proofs.Ytdlkkjfbbeffbaa.Pure
