/- Which blocks are reached, and in which order they are left: the plain part. -/
import Derived.Test.YtpfbfnbffglbkaaQFlowWalks
import Derived.Test.YtpfbfnbffglbkaaFlowV
set_option linter.unusedVariables false
set_option linter.unusedSimpArgs false
namespace Go.Proofs.Ytpfbfnbffglbkaa.Pure
open Go.RowKit Go.Proofs.Ytpfbfnbffglbkaa.P Go.Proofs.YtpfbfnbffglbkaaW.PrintWords Go.Proofs.YtpfbfnbffglbkaaW.PrintLast Go.Proofs.YtpfbfnbffglbkaaW.PrintMore
theorem walks_l1 (left ord : List Int) (he : ord = left.reverse) (hl : left.length ≤ 200) : ∀ (d k i : Nat), i + d = ord.length → d < k → pianolalaw08_FlowWalks.l1 k left ord (i : Int) = some true
  | 0, k, i, hi, hk => by
    obtain ⟨k, rfl⟩ : ∃ m, k = m + 1 := ⟨k - 1, by omega⟩
    simp only [pianolalaw08_FlowWalks.l1]
    rw [if_neg (by omega)]
  | d + 1, k, i, hi, hk => by
    obtain ⟨k, rfl⟩ : ∃ m, k = m + 1 := ⟨k - 1, by omega⟩
    have hlen : ord.length = left.length := by rw [he, List.length_reverse]
    have hlt : i < ord.length := by omega
    have hw : wrap64 ((i : Int) + 1) = ((i + 1 : Nat) : Int) := by unfold wrap64; omega
    have hw1 : wrap64 ((left.length : Int) - 1) = ((left.length - 1 : Nat) : Int) := by unfold wrap64; omega
    have hw2 : wrap64 (((left.length - 1 : Nat) : Int) - (i : Int)) = ((left.length - 1 - i : Nat) : Int) := by unfold wrap64; omega
    have hlt2 : left.length - 1 - i < left.length := by omega
    simp only [pianolalaw08_FlowWalks.l1]
    rw [if_pos (by omega), if_pos (by omega), hw1, hw2, if_pos (by omega), if_pos (by omega), rd_of hlt, rd_of hlt2, if_pos (by subst he; rw [List.getElem_reverse]), hw]
    exact walks_l1 left ord he hl d k (i + 1) (by omega) (by omega)
theorem walks_l0 (b : List S30) (seen : List Bool) (left ord : List Int) (he : ord = left.reverse) (hl : left.length ≤ 200) (hb : b.length ≤ 200) (hs : seen.length = b.length) : ∀ (d k i : Nat), i + d = b.length → d + left.length + 1 < k →
    pianolalaw08_FlowWalks.l0 k b seen left seen ord (i : Int) = some true
  | 0, k, i, hi, hk => by
    obtain ⟨k, rfl⟩ : ∃ m, k = m + 1 := ⟨k - 1, by omega⟩
    have hlen : ord.length = left.length := by rw [he, List.length_reverse]
    simp only [pianolalaw08_FlowWalks.l0]
    rw [if_neg (by omega)]
    exact walks_l1 left ord he hl ord.length k 0 (by omega) (by omega)
  | d + 1, k, i, hi, hk => by
    obtain ⟨k, rfl⟩ : ∃ m, k = m + 1 := ⟨k - 1, by omega⟩
    have hw : wrap64 ((i : Int) + 1) = ((i + 1 : Nat) : Int) := by unfold wrap64; omega
    simp only [pianolalaw08_FlowWalks.l0]
    rw [if_pos (by omega), if_pos (by omega), if_pos (by omega), if_pos (by omega), if_neg (by simp), hw]
    exact walks_l0 b seen left ord he hl hb hs d k (i + 1) (by omega) (by omega)
theorem FlowWalks : Q.FlowWalks := by
  intro x0 _
  have hlives : pianolalaw08_lives.f = some true := rfl
  refine ⟨1000, ?_⟩
  unfold pianolalaw08_FlowWalks.f
  by_cases hl : (x0.length : Int) > 200
  · rw [if_pos hl, hlives]
    rfl
  · have hle := ordB_le x0
    have he := walkB_ord x0
    have hll : (walkB x0 (-1)).2.length ≤ x0.length := by rw [he, List.length_reverse] at hle; exact hle
    have hlen := walkB_len x0
    rw [if_neg hl, walk_run x0 (-1) (by omega), Option.bind_some, reached_run x0 (by omega) 1000 (by omega), Option.bind_some, order_run x0 (by omega), Option.bind_some, hlives, Option.bind_some, if_pos rfl, if_pos (by omega)]
    have e1 : ((ordB x0).length : Int) = (((walkB x0 (-1)).2).length : Int) := by rw [he, List.length_reverse]
    rw [e1]
    show pianolalaw08_FlowWalks.j0 (999 + 1) _ _ _ _ _ _ = _
    simp only [pianolalaw08_FlowWalks.j0]
    rw [if_neg (by simp)]
    exact walks_l0 x0 (walkB x0 (-1)).1 (walkB x0 (-1)).2 (ordB x0) he (by omega) (by omega) hlen x0.length 999 0 (by omega) (by omega)
end Go.Proofs.Ytpfbfnbffglbkaa.Pure
