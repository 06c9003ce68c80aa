/- Whoever pays as long as there is enough pays no more than there was: the plain part. -/
import Derived.Test.YtpfbfnbffglbkaaQGasEnds
import Derived.Test.YtpfbfnbffglbkaaGasA
set_option linter.unusedVariables false
namespace Go.Proofs.Ytpfbfnbffglbkaa.Pure
open Go.RowKit Go.Proofs.Ytpfbfnbffglbkaa.P Go.Proofs.YtpfbfnbffglbkaaW.PrintWords Go.Proofs.YtpfbfnbffglbkaaW.PrintLast Go.Proofs.YtpfbfnbffglbkaaW.PrintMore
theorem wf64 {n : Int} (h : (Lit.int .i64 n).wf = true) : -9223372036854775808 ≤ n ∧ n < 9223372036854775808 := by
  simp [Lit.wf, IntKind.min, IntKind.max, IntKind.bits, IntKind.signed] at h
  omega
theorem ends_go (x0 : Int) (l : List Int) (h0 : -9223372036854775808 ≤ x0) (h1 : x0 < 9223372036854775808) (hl : l.length < 4611686018427387904) (hw : ∀ y ∈ l, -9223372036854775808 ≤ y ∧ y < 9223372036854775808) :
    ∀ (d : Nat) (i : Nat) (x5 : Int), (i + d = 200) → -9223372036854775808 ≤ x5 → x5 < 9223372036854775808 → pianolalaw10_GasEnds.l0 (2 * d + 70) x0 l x5 (wrap64 (x0 - x5)) (i : Int) = some true := by
  intro d
  have hend : ∀ (k : Nat) (i : Int) (x5 : Int), 60 ≤ k → -9223372036854775808 ≤ x5 → x5 < 9223372036854775808 → pianolalaw10_GasEnds.j1 (k + 1) x0 l x5 (wrap64 (x0 - x5)) i false = some true := by
    intro k i x5 hk h5 h6
    rw [pianolalaw10_GasEnds.j1, if_neg (by decide), lives_at k hk, Option.bind_some, if_pos rfl]
    have : wrap64 (wrap64 (x0 - x5) + x5) = x0 := by unfold wrap64; omega
    rw [this]
    simp
  induction d with
  | zero =>
    intro i x5 hi h5 h6
    rw [show 2 * 0 + 70 = 68 + 1 + 1 by omega, pianolalaw10_GasEnds.l0]
    split
    · rw [decide_eq_false (by omega)]
      exact hend 68 _ x5 (by omega) h5 h6
    · exact hend 68 _ x5 (by omega) h5 h6
  | succ d ih =>
    intro i x5 hi h5 h6
    rw [show 2 * (d + 1) + 70 = (2 * d + 70) + 1 + 1 by omega, pianolalaw10_GasEnds.l0]
    by_cases hlt : (i : Int) < (l.length : Int)
    · rw [if_pos hlt, decide_eq_true (by omega), pianolalaw10_GasEnds.j1, if_pos rfl, if_pos (by omega), if_pos hlt]
      have hw1 : wrap64 ((i : Int) + 1) = ((i + 1 : Nat) : Int) := by unfold wrap64; omega
      rw [hw1]
      have hc : -9223372036854775808 ≤ rd l (i : Int) ∧ rd l (i : Int) < 9223372036854775808 := by
        unfold rd
        rw [Int.toNat_natCast, List.getD_eq_getElem?_getD, List.getElem?_eq_getElem (by omega)]
        exact hw _ (List.getElem_mem _)
      generalize rd l (i : Int) = c at hc ⊢
      by_cases hc1 : c < 1
      · rw [if_pos hc1]
        exact ih (i + 1) x5 (by omega) h5 h6
      · rw [if_neg hc1]
        unfold gas_Pay.f
        rw [if_neg (by omega)]
        by_cases hp : x5 < c
        · rw [if_pos hp, Option.bind_some, if_neg (show ¬ (false = true) by decide), if_pos rfl]
          exact ih (i + 1) x5 (by omega) h5 h6
        · rw [if_neg hp, Option.bind_some, if_pos rfl]
          have e : wrap64 (x5 - c) = x5 - c := by unfold wrap64; omega
          dsimp only
          rw [e, if_neg (by omega)]
          have e2 : wrap64 (wrap64 (x0 - x5) + c) = wrap64 (x0 - (x5 - c)) := by unfold wrap64; omega
          rw [e2]
          exact ih (i + 1) (x5 - c) (by omega) (by omega) (by omega)
    · rw [if_neg hlt]
      exact hend (2 * d + 70) _ x5 (by omega) h5 h6
theorem GasEnds : Q.GasEnds := by
  intro x0 x1 h0 h1
  have hw := wf64 h0
  refine ⟨2 * 200 + 70, ?_⟩
  unfold pianolalaw10_GasEnds.f
  have h := ends_go x0 x1 hw.1 hw.2 (by have := h1.2; unfold reachBytes at this; omega) (fun y hy => wf64 (h1.1 y hy)) 200 0 x0 (by omega) hw.1 hw.2
  rw [show wrap64 (x0 - x0) = 0 by unfold wrap64; omega] at h
  exact h
end Go.Proofs.Ytpfbfnbffglbkaa.Pure
