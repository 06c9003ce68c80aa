-- the pure statement of CodecBlobs, laid by a program of this session's
import Derived.Test.YtdlkkjfbbeffbaaPF8
namespace Go.Proofs.Ytdlkkjfbbeffbaa.Q
open Go.RowKit Go.Proofs.Ytdlkkjfbbeffbaa.P Go.Proofs.YtdlkkjfbbeffbaaW.PrintWords Go.Proofs.YtdlkkjfbbeffbaaW.PrintLast
def CodecBlobs : Prop := ∀ (x0 : List Int), ((∀ y_x0 ∈ x0, (Lit.int .u8 y_x0).wf = true) ∧ x0.length * 1 ≤ reachBytes) → pianolalaw01_CodecBlobs.f x0 = some true
end Go.Proofs.Ytdlkkjfbbeffbaa.Q
