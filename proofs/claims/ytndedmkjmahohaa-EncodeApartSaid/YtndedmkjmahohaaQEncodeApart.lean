-- the pure statement of EncodeApart, laid by a program of this session's
import Derived.Test.YtndedmkjmahohaaPF10
namespace Go.Proofs.Ytndedmkjmahohaa.Q
open Go.RowKit Go.Proofs.Ytndedmkjmahohaa.P Go.Proofs.YtndedmkjmahohaaW.PrintWords Go.Proofs.YtndedmkjmahohaaW.PrintLast
def EncodeApart : Prop := ∀ (x0 : S55) (x1 : S55), (((Lit.int .i64 x0.f0).wf = true) ∧ ((Lit.int .i64 x0.f1).wf = true) ∧ ((Lit.int .i64 x0.f2).wf = true) ∧ ((Lit.int .i64 x0.f3).wf = true) ∧ ((Lit.int .i64 x0.f4).wf = true) ∧ ((Lit.int .i64 x0.f5).wf = true) ∧ ((Lit.int .i64 x0.f6).wf = true) ∧ ((Lit.int .i64 x0.f7).wf = true)) → (((Lit.int .i64 x1.f0).wf = true) ∧ ((Lit.int .i64 x1.f1).wf = true) ∧ ((Lit.int .i64 x1.f2).wf = true) ∧ ((Lit.int .i64 x1.f3).wf = true) ∧ ((Lit.int .i64 x1.f4).wf = true) ∧ ((Lit.int .i64 x1.f5).wf = true) ∧ ((Lit.int .i64 x1.f6).wf = true) ∧ ((Lit.int .i64 x1.f7).wf = true)) → pianolalaw12_EncodeApart.f x0.f0 x0.f1 x0.f2 x0.f3 x0.f4 x0.f5 x0.f6 x0.f7 x1.f0 x1.f1 x1.f2 x1.f3 x1.f4 x1.f5 x1.f6 x1.f7 = some true
end Go.Proofs.Ytndedmkjmahohaa.Q
