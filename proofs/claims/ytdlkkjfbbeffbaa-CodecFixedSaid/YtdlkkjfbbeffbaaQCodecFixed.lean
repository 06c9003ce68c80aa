-- the pure statement of CodecFixed, laid by a program of this session's
import Derived.Test.YtdlkkjfbbeffbaaPF9
namespace Go.Proofs.Ytdlkkjfbbeffbaa.Q
open Go.RowKit Go.Proofs.Ytdlkkjfbbeffbaa.P Go.Proofs.YtdlkkjfbbeffbaaW.PrintWords Go.Proofs.YtdlkkjfbbeffbaaW.PrintLast
def CodecFixed : Prop := ∀ (x0 : Int) (x1 : List Int), ((Lit.int .i64 x0).wf = true) → ((∀ y_x1 ∈ x1, (Lit.int .u8 y_x1).wf = true) ∧ x1.length * 1 ≤ reachBytes) → pianolalaw01_CodecFixed.f x0 x1 = some true
end Go.Proofs.Ytdlkkjfbbeffbaa.Q
