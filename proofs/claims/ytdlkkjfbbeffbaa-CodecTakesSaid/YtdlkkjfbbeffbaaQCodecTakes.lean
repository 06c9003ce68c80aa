-- the pure statement of CodecTakes, laid by a program of this session's
import Derived.Test.YtdlkkjfbbeffbaaPF11
namespace Go.Proofs.Ytdlkkjfbbeffbaa.Q
open Go.RowKit Go.Proofs.Ytdlkkjfbbeffbaa.P Go.Proofs.YtdlkkjfbbeffbaaW.PrintWords Go.Proofs.YtdlkkjfbbeffbaaW.PrintLast
def CodecTakes : Prop := ∀ (x0 : List Int), ((∀ y_x0 ∈ x0, (Lit.int .u8 y_x0).wf = true) ∧ x0.length * 1 ≤ reachBytes) → pianolalaw01_CodecTakes.f x0 = some true
end Go.Proofs.Ytdlkkjfbbeffbaa.Q
