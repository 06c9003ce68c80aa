/- Numbers one behind the other: the plain part. -/
import Derived.Test.YtdlkkjfbbeffbaaPF7
namespace Go.Proofs.Ytdlkkjfbbeffbaa.Pure
open Go.RowKit Go.Proofs.Ytdlkkjfbbeffbaa.P Go.Proofs.YtdlkkjfbbeffbaaW.PrintWords Go.Proofs.YtdlkkjfbbeffbaaW.PrintLast
theorem CodecGoes (x0 : List Int) (x1 : Int) (h0 : ∀ y ∈ x0, (Lit.int .u8 y).wf = true) (_h1 : (Lit.int .i64 x1).wf = true) (h2 : x0.length ≤ 1048576) : pianolalaw01_CodecGoes.f x0 x1 = some true := by
  unfold pianolalaw01_CodecGoes.f
  rw [if_pos]
  exact ⟨okBytes_of x0 h0 (by unfold reachBytes; omega), h2⟩
end Go.Proofs.Ytdlkkjfbbeffbaa.Pure
