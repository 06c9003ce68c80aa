/- Lists of lists; the first one's code stands behind the count: the plain part. -/
import Derived.Test.YtdlkkjfbbeffbaaQCodecNests
namespace Go.Proofs.Ytdlkkjfbbeffbaa.Pure
open Go.RowKit Go.Proofs.Ytdlkkjfbbeffbaa.P Go.Proofs.YtdlkkjfbbeffbaaW.PrintWords Go.Proofs.YtdlkkjfbbeffbaaW.PrintLast
theorem CodecNests : Q.CodecNests := by
  intro x0 h0
  unfold pianolalaw01_CodecNests.f
  rw [if_pos]
  unfold okNests
  rw [List.all_eq_true]
  exact fun b hb => okBytes_of b (h0.1 b hb).1 (h0.1 b hb).2
end Go.Proofs.Ytdlkkjfbbeffbaa.Pure
