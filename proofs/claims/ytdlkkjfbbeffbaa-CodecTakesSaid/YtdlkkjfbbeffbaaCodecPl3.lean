/- codec, in plain Lean: what any bytes are by a field; no statement of the seat. -/
import Derived.Test.YtdlkkjfbbeffbaaCodecPl2
set_option linter.unusedVariables false
set_option linter.unusedSimpArgs false
namespace Go.Proofs.Ytdlkkjfbbeffbaa.P
open Go.RowKit Go.Proofs.YtdlkkjfbbeffbaaW.PrintWords Go.Proofs.YtdlkkjfbbeffbaaW.PrintLast Go.Proofs.YtdlkkjfbbeffbaaW.PrintMore
/-- What a field reads, in three cases. -/
theorem reads3 {α : Type} (G : List Int × Bool → α × List Int × Bool) (z : α) (b : List Int) (hl : (G (b, false)).2.1.length ≤ b.length) (hd : (b.length : Int) - ((G (b, false)).2.1.length : Int) ≤ 1048576) (hz : (G (b, false)).2.2 = true → (G (b, false)).1 = z) :
    (∃ r, G (b, false) = (z, r, true) ∧ fstR G z b = (z, 0, 10) ∧ decR G z b = (z, 10)) ∨ (∃ x, G (b, false) = (x, [], false) ∧ fstR G z b = (x, (b.length : Int), 0) ∧ decR G z b = (x, 0)) ∨ (∃ x r, G (b, false) = (x, r, false) ∧ fstR G z b = (x, (b.length : Int) - (r.length : Int), 0) ∧ decR G z b = (z, 10) ∧ 0 < r.length ∧ r.length ≤ b.length) := by
  obtain ⟨x, r, bad, hg⟩ : ∃ x r bad, G (b, false) = (x, r, bad) := ⟨_, _, _, rfl⟩
  rw [hg] at hl hd hz
  dsimp only at hl hd hz
  cases bad
  · by_cases h0 : r.length = 0
    · obtain rfl : r = [] := List.length_eq_zero_iff.mp h0
      refine .inr (.inl ⟨x, hg, ?_, ?_⟩)
      · rw [fst_good G z b x [] hg hd]
        simp
      · exact dec_good G z b x hg (by simpa using hd)
    · exact .inr (.inr ⟨x, r, hg, fst_good G z b x r hg hd, dec_more G z b x r hg hd (by omega), by omega, hl⟩)
  · obtain rfl := hz rfl
    have hb : (G (b, false)).2.2 = true := by rw [hg]
    exact .inl ⟨r, hg, fst_bad G x b hb, dec_bad G x b hb⟩
theorem takeS_back (s : List Int × Bool) (n : Int) : (takeS s n).2.1.length ≤ s.1.length ∧ (s.1.length : Int) - ((takeS s n).2.1.length : Int) ≤ max n 0 := by
  unfold takeS
  split
  · exact ⟨Nat.le_refl _, by dsimp only; omega⟩
  · dsimp only
    rw [List.length_drop]
    omega
theorem lowI_bad (s : List Int × Bool) (n most : Int) (h : (lowI s n most).2.2 = true) : (lowI s n most).1 = 0 := by
  unfold lowI at h ⊢
  dsimp only at h ⊢
  rw [h]
  rfl
theorem readsI (b : List Int) (n : Nat) (most : Int) (hn : n ≤ 8) :
    (∃ r, lowI (b, false) (n : Int) most = (0, r, true) ∧ fstR (fun s => lowI s (n : Int) most) 0 b = (0, 0, 10) ∧ decR (fun s => lowI s (n : Int) most) 0 b = (0, 10)) ∨ (∃ x, lowI (b, false) (n : Int) most = (x, [], false) ∧ fstR (fun s => lowI s (n : Int) most) 0 b = (x, (b.length : Int), 0) ∧ decR (fun s => lowI s (n : Int) most) 0 b = (x, 0)) ∨ (∃ x r, lowI (b, false) (n : Int) most = (x, r, false) ∧ fstR (fun s => lowI s (n : Int) most) 0 b = (x, (b.length : Int) - (r.length : Int), 0) ∧ decR (fun s => lowI s (n : Int) most) 0 b = (0, 10) ∧ 0 < r.length ∧ r.length ≤ b.length) := by
  have h := takeS_back (b, false) (n : Int)
  exact reads3 (fun s => lowI s (n : Int) most) 0 b h.1 (Int.le_trans h.2 (by omega)) (lowI_bad _ _ _)
theorem readsF (b : List Int) :
    (∃ r, flagG (b, false) = (false, r, true) ∧ fstR flagG false b = (false, 0, 10) ∧ decR flagG false b = (false, 10)) ∨ (∃ x, flagG (b, false) = (x, [], false) ∧ fstR flagG false b = (x, (b.length : Int), 0) ∧ decR flagG false b = (x, 0)) ∨ (∃ x r, flagG (b, false) = (x, r, false) ∧ fstR flagG false b = (x, (b.length : Int) - (r.length : Int), 0) ∧ decR flagG false b = (false, 10) ∧ 0 < r.length ∧ r.length ≤ b.length) := by
  have h := takeS_back (b, false) 1
  refine reads3 flagG false b h.1 (Int.le_trans h.2 (by omega)) fun hb => ?_
  show ((lowI (b, false) 1 1).1 == 1) = false
  rw [lowI_bad _ _ _ hb]
  rfl
end Go.Proofs.Ytdlkkjfbbeffbaa.P
