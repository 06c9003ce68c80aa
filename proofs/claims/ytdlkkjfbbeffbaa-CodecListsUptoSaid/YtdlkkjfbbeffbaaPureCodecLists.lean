/- A list of pairs of a number and a blob; it is decoded again: the plain part. -/
import Derived.Test.YtdlkkjfbbeffbaaPF10
namespace Go.Proofs.Ytdlkkjfbbeffbaa.Pure
open Go.RowKit Go.Proofs.Ytdlkkjfbbeffbaa.P Go.Proofs.YtdlkkjfbbeffbaaW.PrintWords Go.Proofs.YtdlkkjfbbeffbaaW.PrintLast
theorem CodecLists (x0 : List Int) (x1 : List (List Int)) (h0 : ∀ y ∈ x0, (Lit.int .i64 y).wf = true) (h1 : ∀ b ∈ x1, (∀ y ∈ b, (Lit.int .u8 y).wf = true) ∧ b.length * 1 ≤ reachBytes) (h2 : x0.length ≤ 1048576) (h3 : x1.length ≤ 1048576) : pianolalaw01_CodecLists.f x0 x1 = some true := by
  unfold pianolalaw01_CodecLists.f
  rw [if_pos]
  unfold okLists
  simp only [Bool.and_eq_true, List.all_eq_true, decide_eq_true_eq]
  exact ⟨⟨⟨okInts_of x0 h0, fun b hb => okBytes_of b (h1 b hb).1 (h1 b hb).2⟩, h2⟩, h3⟩
end Go.Proofs.Ytdlkkjfbbeffbaa.Pure
