/- What any op and any block costs, and what is left: the plain part. -/
import Derived.Test.YtpfbfnbffglbkaaQGasCosts
import Derived.Test.YtpfbfnbffglbkaaGasA
set_option linter.unusedVariables false
namespace Go.Proofs.Ytpfbfnbffglbkaa.Pure
open Go.RowKit Go.Proofs.Ytpfbfnbffglbkaa.P Go.Proofs.YtpfbfnbffglbkaaW.PrintWords Go.Proofs.YtpfbfnbffglbkaaW.PrintLast Go.Proofs.YtpfbfnbffglbkaaW.PrintMore
theorem costs_end (x0 : Int) (l : List S34) (hl : l.length ≤ 1000) (k : Nat) (hk : 1100 ≤ k) (n : Int) (ok : Bool) (a b : Int) (nx : List Int) :
    pianolalaw10_GasCosts.j1 (k + 1) x0 l n ok n ok a b nx = some true := by
  rw [pianolalaw10_GasCosts.j1, lives_at k (by omega), Option.bind_some, if_pos rfl, cost_at k (by omega), Option.bind_some, rcost_at k (by omega), Option.bind_some, if_pos rfl]
  obtain ⟨r, h1, h2⟩ := blocks_same l a b nx (by omega) k (by omega)
  rw [h1, Option.bind_some, h2, Option.bind_some, if_pos rfl, if_pos rfl]
  simp
theorem GasCosts : Q.GasCosts := by
  intro x0 x1 x2 x3 x4 h0 h1 h2 h3 h4
  refine ⟨2000, ?_⟩
  unfold pianolalaw10_GasCosts.f
  by_cases hl : (x1.length : Int) > 1000
  · rw [if_pos hl, lives_at 2000 (by omega)]
    rfl
  · rw [if_neg hl]
    have hb3 : -9223372036854775808 ≤ x3 ∧ x3 < 9223372036854775808 := by
      simp [Lit.wf, IntKind.min, IntKind.max, IntKind.bits, IntKind.signed] at h3
      omega
    unfold gas_Pay.f
    by_cases hc : x4 < 0
    · rw [if_pos hc, Option.bind_some, if_neg (by omega), pianolalaw10_GasCosts.j0, if_neg (by decide)]
      exact costs_end x0 x1 (by omega) 1998 (by omega) x3 false _ _ _
    · rw [if_neg hc]
      by_cases hp : x3 < x4
      · rw [if_pos hp, Option.bind_some, if_pos (by omega), decide_eq_false (by omega), pianolalaw10_GasCosts.j0, if_neg (by decide)]
        exact costs_end x0 x1 (by omega) 1998 (by omega) x3 false _ _ _
      · rw [if_neg hp, Option.bind_some, if_pos (by omega), decide_eq_true (by omega), pianolalaw10_GasCosts.j0, if_pos rfl]
        exact costs_end x0 x1 (by omega) 1998 (by omega) (wrap64 (x3 - x4)) true _ _ _
end Go.Proofs.Ytpfbfnbffglbkaa.Pure
