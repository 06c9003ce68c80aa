/- Just so many bytes, no more, no fewer; fields that nothing made: the plain part. -/
import Derived.Test.YtdlkkjfbbeffbaaQCodecFixed
namespace Go.Proofs.Ytdlkkjfbbeffbaa.Pure
open Go.RowKit Go.Proofs.Ytdlkkjfbbeffbaa.P Go.Proofs.YtdlkkjfbbeffbaaW.PrintWords Go.Proofs.YtdlkkjfbbeffbaaW.PrintLast
theorem CodecFixed : Q.CodecFixed := by
  intro x0 x1 h0 h1
  unfold pianolalaw01_CodecFixed.f
  rw [if_pos (okBytes_of x1 h1.1 h1.2)]
end Go.Proofs.Ytdlkkjfbbeffbaa.Pure
