/- The word of any instruction, or that it may not be: the plain part. -/
import Derived.Test.YtndedmkjmahohaaQEncodeWords
import Derived.Test.YtndedmkjmahohaaRefEnc
set_option linter.unusedSimpArgs false
set_option linter.unusedVariables false
namespace Go.Proofs.Ytndedmkjmahohaa.Pure
open Go.RowKit Go.Proofs.Ytndedmkjmahohaa.P Go.Proofs.YtndedmkjmahohaaW.PrintWords Go.Proofs.YtndedmkjmahohaaW.PrintLast Go.Proofs.Ytndedmkjmahohaa.A64
theorem lives12w : pianolalaw12_lives.f = some true := by decide +kernel
theorem wf64 {n : Int} (h : (Lit.int .i64 n).wf = true) : -9223372036854775808 ≤ n ∧ n < 9223372036854775808 := by
  simp [Lit.wf, IntKind.min, IntKind.max, IntKind.bits, IntKind.signed] at h
  skip
  omega
theorem EncodeWords : Q.EncodeWords := by
  intro x ⟨h0, h1, h2, h3, h4, h5, h6, h7⟩
  refine ⟨41, ?_⟩
  obtain ⟨v, ok, hr, ⟨rfl, he⟩ | ⟨rfl, he⟩⟩ := ref_enc x.f0 x.f1 x.f2 x.f3 x.f4 x.f5 x.f6 x.f7 (wf64 h1) (wf64 h2) (wf64 h3) (wf64 h4) (wf64 h5) (wf64 h6) (wf64 h7)
  · simp only [pianolalaw12_EncodeWords.f, encode_May.f, he, hr, lives12w, Option.bind_some]
    simp [pianolalaw12_EncodeWords.j0]
  · simp only [pianolalaw12_EncodeWords.f, encode_May.f, he, hr, lives12w, Option.bind_some]
    simp [pianolalaw12_EncodeWords.j0]
end Go.Proofs.Ytndedmkjmahohaa.Pure
