-- the pure statement of EncodeWords, laid by a program of this session's
import Derived.Test.YtndedmkjmahohaaPF8
namespace Go.Proofs.Ytndedmkjmahohaa.Q
open Go.RowKit Go.Proofs.Ytndedmkjmahohaa.P Go.Proofs.YtndedmkjmahohaaW.PrintWords Go.Proofs.YtndedmkjmahohaaW.PrintLast
def EncodeWords : Prop := ∀ (x0 : S55), (((Lit.int .i64 x0.f0).wf = true) ∧ ((Lit.int .i64 x0.f1).wf = true) ∧ ((Lit.int .i64 x0.f2).wf = true) ∧ ((Lit.int .i64 x0.f3).wf = true) ∧ ((Lit.int .i64 x0.f4).wf = true) ∧ ((Lit.int .i64 x0.f5).wf = true) ∧ ((Lit.int .i64 x0.f6).wf = true) ∧ ((Lit.int .i64 x0.f7).wf = true)) → ∃ k, pianolalaw12_EncodeWords.f k x0.f0 x0.f1 x0.f2 x0.f3 x0.f4 x0.f5 x0.f6 x0.f7 = some true
end Go.Proofs.Ytndedmkjmahohaa.Q
