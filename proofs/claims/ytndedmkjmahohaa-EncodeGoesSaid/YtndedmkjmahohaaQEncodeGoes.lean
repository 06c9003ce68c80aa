-- the pure statement of EncodeGoes, laid by a program of this session's
import Derived.Test.YtndedmkjmahohaaPF11
namespace Go.Proofs.Ytndedmkjmahohaa.Q
open Go.RowKit Go.Proofs.Ytndedmkjmahohaa.P Go.Proofs.YtndedmkjmahohaaW.PrintWords Go.Proofs.YtndedmkjmahohaaW.PrintLast
def EncodeGoes : Prop := ∀ (x0 : Int) (x1 : Int) (x2 : Int), ((Lit.int .i64 x0).wf = true) → ((Lit.int .i64 x1).wf = true) → ((Lit.int .i64 x2).wf = true) → pianolalaw12_EncodeGoes.f x0 x1 x2 = some true
end Go.Proofs.Ytndedmkjmahohaa.Q
