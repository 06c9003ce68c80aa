-- the pure statement of CodecReads, laid by a program of this session's
import Derived.Test.YtdlkkjfbbeffbaaPF5
namespace Go.Proofs.Ytdlkkjfbbeffbaa.Q
open Go.RowKit Go.Proofs.Ytdlkkjfbbeffbaa.P Go.Proofs.YtdlkkjfbbeffbaaW.PrintWords Go.Proofs.YtdlkkjfbbeffbaaW.PrintLast
def CodecReads : Prop := ∀ (x0 : List Int), ((∀ y_x0 ∈ x0, (Lit.int .u8 y_x0).wf = true) ∧ x0.length * 1 ≤ reachBytes) → pianolalaw01_CodecReads.f x0 = some true
end Go.Proofs.Ytdlkkjfbbeffbaa.Q
