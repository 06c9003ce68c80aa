-- the pure statement of CodecApart, laid by a program of this session's
import Derived.Test.YtdlkkjfbbeffbaaPF6
namespace Go.Proofs.Ytdlkkjfbbeffbaa.Q
open Go.RowKit Go.Proofs.Ytdlkkjfbbeffbaa.P Go.Proofs.YtdlkkjfbbeffbaaW.PrintWords Go.Proofs.YtdlkkjfbbeffbaaW.PrintLast
def CodecApart : Prop := ∀ (x0 : List Int) (x1 : List Int), ((∀ y_x0 ∈ x0, (Lit.int .i64 y_x0).wf = true) ∧ x0.length * 8 ≤ reachBytes) → ((∀ y_x1 ∈ x1, (Lit.int .i64 y_x1).wf = true) ∧ x1.length * 8 ≤ reachBytes) → pianolalaw01_CodecApart.f x0 x1 = some true
end Go.Proofs.Ytdlkkjfbbeffbaa.Q
