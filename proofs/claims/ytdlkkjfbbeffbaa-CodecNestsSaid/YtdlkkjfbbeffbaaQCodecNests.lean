-- the pure statement of CodecNests, laid by a program of this session's
import Derived.Test.YtdlkkjfbbeffbaaPF3
namespace Go.Proofs.Ytdlkkjfbbeffbaa.Q
open Go.RowKit Go.Proofs.Ytdlkkjfbbeffbaa.P Go.Proofs.YtdlkkjfbbeffbaaW.PrintWords Go.Proofs.YtdlkkjfbbeffbaaW.PrintLast
def CodecNests : Prop := ∀ (x0 : List (List Int)), ((∀ y_x0 ∈ x0, (∀ y_y_x0 ∈ y_x0, (Lit.int .u8 y_y_x0).wf = true) ∧ y_x0.length * 1 ≤ reachBytes) ∧ x0.length * 24 ≤ reachBytes) → pianolalaw01_CodecNests.f x0 = some true
end Go.Proofs.Ytdlkkjfbbeffbaa.Q
