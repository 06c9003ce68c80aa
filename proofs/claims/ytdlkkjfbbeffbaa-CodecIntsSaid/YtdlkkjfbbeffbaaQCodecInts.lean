-- the pure statement of CodecInts, laid by a program of this session's
import Derived.Test.YtdlkkjfbbeffbaaPF4
namespace Go.Proofs.Ytdlkkjfbbeffbaa.Q
open Go.RowKit Go.Proofs.Ytdlkkjfbbeffbaa.P Go.Proofs.YtdlkkjfbbeffbaaW.PrintWords Go.Proofs.YtdlkkjfbbeffbaaW.PrintLast
def CodecInts : Prop := ∀ (x0 : Int), ((Lit.int .i64 x0).wf = true) → pianolalaw01_CodecInts.f x0 = some true
end Go.Proofs.Ytdlkkjfbbeffbaa.Q
