/- Of two lists of numbers the codes are the same just if they are: the plain part. -/
import Derived.Test.YtdlkkjfbbeffbaaQCodecApart
namespace Go.Proofs.Ytdlkkjfbbeffbaa.Pure
open Go.RowKit Go.Proofs.Ytdlkkjfbbeffbaa.P Go.Proofs.YtdlkkjfbbeffbaaW.PrintWords Go.Proofs.YtdlkkjfbbeffbaaW.PrintLast
theorem CodecApart : Q.CodecApart := by
  intro x0 x1 h0 h1
  unfold pianolalaw01_CodecApart.f
  rw [if_pos ⟨okInts_of x0 h0.1, okInts_of x1 h1.1⟩]
end Go.Proofs.Ytdlkkjfbbeffbaa.Pure
