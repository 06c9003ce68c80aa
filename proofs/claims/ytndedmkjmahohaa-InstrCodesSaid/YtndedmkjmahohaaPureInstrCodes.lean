/- The code of any instructions; they are decoded again: the plain part. -/
import Derived.Test.YtndedmkjmahohaaQInstrCodes
import Derived.Test.YtndedmkjmahohaaInstrPl
set_option linter.unusedSimpArgs false
set_option linter.unusedVariables false
namespace Go.Proofs.Ytndedmkjmahohaa.Pure
open Go.RowKit Go.Proofs.Ytndedmkjmahohaa.P Go.Proofs.Ytndedmkjmahohaa.Pl Go.Proofs.YtndedmkjmahohaaW.PrintWords Go.Proofs.YtndedmkjmahohaaW.PrintLast Go.Proofs.YtndedmkjmahohaaW.PrintMore
theorem InstrCodes : Q.InstrCodes := by
  intro l h
  have hl : l.length < 4611686018427387904 := by have := h.2; unfold reachBytes at this; omega
  refine ⟨5 + l.length, ?_⟩
  unfold pianolalaw05_InstrCodes.f
  simp only [Option.bind_some, List.nil_append]
  rw [if_pos (by have := h.2; unfold reachBytes at this; simp only [List.length_nil]; omega), enc_f, show 5 + l.length = (1 + 4 + l.length) by omega, renc_f 1 l hl]
  simp only [Option.bind_some]
  rw [show pianolalaw05_lives.f = some true from rfl]
  simp only [Option.bind_some, if_true]
  rw [show 1 + 4 + l.length = 4 + 1 + l.length by omega, same_f 4 l hl]
  simp only [Option.bind_some]
  rw [show 4 + 1 + l.length = (4 + l.length) + 1 by omega, pianolalaw05_InstrCodes.j0, if_neg (by decide)]
  unfold encR
  by_cases c : 0 ≤ bad l 0
  · rw [if_pos c]
    exact if_neg (show ¬ ((50 : Int) = 0) by decide)
  · rw [if_neg c]
    by_cases d : (cat l).length ≤ 4096
    · have hb := bad_neg l 0 (by omega)
      rw [if_pos d]
      simp only [if_true]
      rw [dec_cat l hb.2 d]
      simp only [Option.bind_some, if_true]
      rw [show 4 + l.length = 3 + 1 + l.length by omega, same_f 3 l hl]
      rfl
    · rw [if_neg d]
      exact if_neg (show ¬ ((3 : Int) = 0) by decide)
end Go.Proofs.Ytndedmkjmahohaa.Pure
