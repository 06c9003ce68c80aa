/- The blocks of any instructions are the reference's: the plain part. -/
import Derived.Test.YtpfbfnbffglbkaaQFlowBlocks
import Derived.Test.YtpfbfnbffglbkaaFlowP
set_option linter.unusedVariables false
set_option linter.unusedSimpArgs false
namespace Go.Proofs.Ytpfbfnbffglbkaa.Pure
open Go.RowKit Go.Proofs.Ytpfbfnbffglbkaa.P Go.Proofs.YtpfbfnbffglbkaaW.PrintWords Go.Proofs.YtpfbfnbffglbkaaW.PrintLast Go.Proofs.YtpfbfnbffglbkaaW.PrintMore
theorem same_loop (l : List Int) (hl : l.length ≤ 10000) : ∀ (d k i : Nat), i + d = l.length → d < k → pianolalaw08_sameInts.l0 k l l (i : Int) = some true := by
  intro d
  induction d with
  | zero =>
    intro k i hi hk
    obtain ⟨k, rfl⟩ : ∃ k', k = k' + 1 := ⟨k - 1, by omega⟩
    rw [pianolalaw08_sameInts.l0, if_neg (by omega)]
  | succ d ih =>
    intro k i hi hk
    obtain ⟨k, rfl⟩ : ∃ k', k = k' + 1 := ⟨k - 1, by omega⟩
    rw [pianolalaw08_sameInts.l0, if_pos (by omega), if_pos (by omega), if_pos (by omega), if_pos rfl, w1 i (by omega)]
    exact ih k (i + 1) (by omega) (by omega)
theorem same_run (l : List Int) (hl : l.length ≤ 10000) (k : Nat) (hk : l.length < k) : pianolalaw08_sameInts.f k l l = some true := by
  unfold pianolalaw08_sameInts.f
  rw [if_pos rfl]
  exact same_loop l hl l.length k 0 (by omega) hk
theorem ends_loop (l : List S34) (hl : l.length ≤ 10000) : ∀ (d k i : Nat), i + d = l.length → d < k → pianolalaw08_FlowBlocks.l1 k l (i : Int) = some true := by
  intro d
  induction d with
  | zero =>
    intro k i hi hk
    obtain ⟨k, rfl⟩ : ∃ k', k = k' + 1 := ⟨k - 1, by omega⟩
    rw [pianolalaw08_FlowBlocks.l1, if_neg (by omega)]
  | succ d ih =>
    intro k i hi hk
    obtain ⟨k, rfl⟩ : ∃ k', k = k' + 1 := ⟨k - 1, by omega⟩
    rw [pianolalaw08_FlowBlocks.l1, if_pos (by omega), if_pos (by omega), ends_run, Option.bind_some, refE_run, Option.bind_some, if_neg (by simp), w1 i (by omega)]
    exact ih k (i + 1) (by omega) (by omega)
theorem blocks_loop (x0 : List S34) (hl : x0.length ≤ 300) (bs : List S30) (hb : bs.length ≤ 300) (hn : ∀ i : Nat, i < bs.length → (rd_T30 bs (i : Int)).f2.length ≤ 2) :
    ∀ (d k i : Nat), i + d = bs.length → d + 400 ≤ k → pianolalaw08_FlowBlocks.l0 k x0 bs bs (i : Int) = some true := by
  intro d
  induction d with
  | zero =>
    intro k i hi hk
    obtain ⟨k, rfl⟩ : ∃ k', k = k' + 1 := ⟨k - 1, by omega⟩
    rw [pianolalaw08_FlowBlocks.l0, if_neg (by omega)]
    exact ends_loop x0 (by omega) x0.length k 0 (by omega) (by omega)
  | succ d ih =>
    intro k i hi hk
    obtain ⟨k, rfl⟩ : ∃ k', k = k' + 1 := ⟨k - 1, by omega⟩
    have h2 := hn i (by omega)
    rw [pianolalaw08_FlowBlocks.l0, if_pos (by omega), if_pos (by omega), if_pos (by omega), if_pos rfl, if_pos rfl, same_run _ (by omega) k (by omega), Option.bind_some, if_pos rfl, w1 i (by omega)]
    exact ih k (i + 1) (by omega) (by omega)
theorem nxtB_len (l : List S34) (pl g : List Int) (k : Nat) : (nxtB l pl g k).length ≤ 2 := by
  unfold nxtB
  rw [List.length_append]
  split <;> split <;> simp
theorem blocksM_ok (l : List S34) (pl : List Int) (b : Bool) : (blocksM l pl b).1.length ≤ l.length ∧ ∀ i : Nat, i < (blocksM l pl b).1.length → (rd_T30 (blocksM l pl b).1 (i : Int)).f2.length ≤ 2 := by
  unfold blocksM
  split
  · split
    · split
      · refine ⟨by rw [List.length_map, List.length_range]; exact begL_len _ _, fun i hi => ?_⟩
        rw [List.length_map, List.length_range] at hi
        unfold rd_T30
        rw [Int.toNat_natCast, List.getD_eq_getElem?_getD, List.getElem?_map, List.getElem?_range hi]
        exact nxtB_len l pl _ i
      · exact ⟨Nat.zero_le _, fun i hi => absurd hi (by simp)⟩
    · exact ⟨Nat.zero_le _, fun i hi => absurd hi (by simp)⟩
  · exact ⟨Nat.zero_le _, fun i hi => absurd hi (by simp)⟩
theorem FlowBlocks : Q.FlowBlocks := by
  intro x0 x1 h0 h1
  refine ⟨5000, ?_⟩
  have hlives : pianolalaw08_lives.f = some true := rfl
  unfold pianolalaw08_FlowBlocks.f
  by_cases hl : (x0.length : Int) > 300
  · rw [if_pos hl, hlives]
    rfl
  · have hlen : x1.length < 17592186044416 := by
      have := h1.2
      unfold reachBytes at this
      omega
    obtain ⟨b, hbr, hb⟩ := blocks_run x0 x1 (by omega) 5000 (by omega)
    have hr := ref_run x0 x1 (by omega) 5000 (by omega) b hbr
    obtain ⟨hm1, hm2⟩ := blocksM_ok x0 x1 b
    rw [if_neg hl, Option.bind_some, if_pos (by simp; omega), Option.bind_some, if_pos (by simpa using hlen), List.nil_append, List.nil_append, hb, Option.bind_some, hr, Option.bind_some, hlives, Option.bind_some, if_pos rfl, if_pos rfl, if_pos rfl, pianolalaw08_FlowBlocks.j0, if_neg (by simp)]
    exact blocks_loop x0 (by omega) _ (by omega) hm2 (blocksM x0 x1 b).1.length 4999 0 (by omega) (by omega)
end Go.Proofs.Ytpfbfnbffglbkaa.Pure
