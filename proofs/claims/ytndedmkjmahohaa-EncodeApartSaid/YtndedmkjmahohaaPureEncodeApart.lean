/- Two instructions that may be have the same word just if they are the same: the plain part. -/
import Derived.Test.YtndedmkjmahohaaQEncodeApart
import Derived.Test.YtndedmkjmahohaaA64
set_option linter.unusedSimpArgs false
set_option linter.unusedVariables false
namespace Go.Proofs.Ytndedmkjmahohaa.Pure
open Go.RowKit Go.Proofs.Ytndedmkjmahohaa.P Go.Proofs.YtndedmkjmahohaaW.PrintWords Go.Proofs.YtndedmkjmahohaaW.PrintLast Go.Proofs.Ytndedmkjmahohaa.A64
theorem lives12 : pianolalaw12_lives.f = some true := by decide +kernel
theorem EncodeApart : Q.EncodeApart := by
  intro x y _ _
  unfold pianolalaw12_EncodeApart.f
  rw [lives12]
  rcases enc_dec x.f0 x.f1 x.f2 x.f3 x.f4 x.f5 x.f6 x.f7 with h | ⟨W, h, hd⟩
  · rcases enc_dec y.f0 y.f1 y.f2 y.f3 y.f4 y.f5 y.f6 y.f7 with h' | ⟨W', h', hd'⟩ <;> (rw [h, h']; simp)
  · rcases enc_dec y.f0 y.f1 y.f2 y.f3 y.f4 y.f5 y.f6 y.f7 with h' | ⟨W', h', hd'⟩
    · rw [h, h']; simp
    · rw [h, h']
      simp only [Option.bind_some, if_true, Option.some.injEq, beq_iff_eq, if_pos]
      rw [Bool.eq_iff_iff]
      simp only [beq_iff_eq, Bool.and_eq_true]
      constructor
      · intro e
        rw [← e, hd] at hd'
        injection hd' with e0 e1 e2 e3 e4 e5 e6 e7
        exact ⟨e0, e1, e2, e3, e4, e5, e6, e7⟩
      · rintro ⟨e0, e1, e2, e3, e4, e5, e6, e7⟩
        rw [e0, e1, e2, e3, e4, e5, e6, e7, h'] at h
        simp at h
        exact h.symm
end Go.Proofs.Ytndedmkjmahohaa.Pure
