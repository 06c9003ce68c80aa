/- Each instruction stands in one block: the plain part. -/
import Derived.Test.YtpfbfnbffglbkaaQFlowParts
import Derived.Test.YtpfbfnbffglbkaaFlowP
set_option linter.unusedVariables false
set_option linter.unusedSimpArgs false
namespace Go.Proofs.Ytpfbfnbffglbkaa.Pure
open Go.RowKit Go.Proofs.Ytpfbfnbffglbkaa.P Go.Proofs.YtpfbfnbffglbkaaW.PrintWords Go.Proofs.YtpfbfnbffglbkaaW.PrintLast Go.Proofs.YtpfbfnbffglbkaaW.PrintMore
theorem refEnds_run (a : Int) : pianolaref08_Ends.f a = some (endsB a) := by
  unfold pianolaref08_Ends.f endsB jumpsB stopsB
  split
  · simp [*]
  · split
    · simp [*]
    · split
      · simp [*]
      · split
        · simp [*]
        · simp [*]
          rfl
theorem no_between {l : List S34} {pl g : List Int} {n : Nat} (h : BegOK l pl g n) (i : Nat) (hi : i < g.length) (x : Int) (hx : x ∈ g) (hlt : rd g (i : Int) < x) : endB n g i ≤ x := by
  obtain ⟨j, hj, rfl⟩ := mem_rd hx
  have hij : i < j := by
    rcases Nat.lt_or_ge i j with h1 | h1
    · exact h1
    · have := h.rg.le j i h1 hi
      omega
  unfold endB
  rw [if_pos (by omega)]
  exact h.rg.le (i + 1) j hij hj
theorem rd_blk (l : List S34) (pl g : List Int) (i : Nat) (hi : i < g.length) : rd_T30 ((List.range g.length).map (blkB l pl g)) (i : Int) = blkB l pl g i := by
  unfold rd_T30
  rw [Int.toNat_natCast, List.getD_eq_getElem?_getD, List.getElem?_map, List.getElem?_range hi]
  rfl
theorem parts_l1 {l : List S34} {pl g : List Int} {n : Nat} (h : BegOK l pl g n) (i : Nat) (hi : i < g.length) (K : Nat)
    (hK : pianolalaw08_FlowParts.l0 K l ((List.range g.length).map (blkB l pl g)) (endB n g i) ((i + 1 : Nat) : Int) = some true) :
    ∀ (e kk : Nat), kk + e = lastB n g i → rd g (i : Int) ≤ (kk : Int) → pianolalaw08_FlowParts.l1 (K + e + 1) l ((List.range g.length).map (blkB l pl g)) (i : Int) (kk : Int) = some true := by
  have hE := h.endB i hi
  have hgl := h.gl
  have hmx := h.mx
  have hln := h.ln
  have hbl : ((List.range g.length).map (blkB l pl g)).length = g.length := by rw [List.length_map, List.length_range]
  have hf1 : (blkB l pl g i).f1 = endB n g i := by unfold blkB; rw [h.ln]
  have hw : wrap64 (endB n g i - 1) = ((lastB n g i : Nat) : Int) := by unfold lastB wrap64; omega
  have hlast : ((lastB n g i : Nat) : Int) = endB n g i - 1 := by unfold lastB; omega
  intro e
  induction e with
  | zero =>
    intro kk hk hg
    rw [pianolalaw08_FlowParts.l1, if_pos (by omega), if_pos (by omega), rd_blk l pl g i hi, hf1, hw, if_neg (by omega), w1 i (by omega)]
    exact hK
  | succ e ih =>
    intro kk hk hg
    rw [pianolalaw08_FlowParts.l1, if_pos (by omega), if_pos (by omega), rd_blk l pl g i hi, hf1, hw, if_pos (by omega), if_pos (by omega), if_pos (by omega), refEnds_run, Option.bind_some]
    have hne : endsB ((rd_T34 l (kk : Int)).f0) = false := by
      cases hc : endsB ((rd_T34 l (kk : Int)).f0) with
      | false => rfl
      | true =>
        have h1 := h.en kk (by omega) hc
        have h2 := no_between h i hi _ h1 (by omega)
        omega
    rw [hne, if_neg (by decide), w1 kk (by omega)]
    exact ih (kk + 1) (by omega) (by omega)
def atB (n : Nat) (g : List Int) (i : Nat) : Int := if i < g.length then rd g (i : Int) else (n : Int)
theorem parts_l0 {l : List S34} {pl g : List Int} {n : Nat} (h : BegOK l pl g n) : ∀ (d K i : Nat), i + d = g.length → ((3 * d : Nat) : Int) + (n : Int) - atB n g i + 2 ≤ (K : Int) →
    pianolalaw08_FlowParts.l0 K l ((List.range g.length).map (blkB l pl g)) (atB n g i) (i : Int) = some true := by
  have hbl : ((List.range g.length).map (blkB l pl g)).length = g.length := by rw [List.length_map, List.length_range]
  intro d
  induction d with
  | zero =>
    intro K i hi hK
    have ha : atB n g i = (n : Int) := by unfold atB; rw [if_neg (by omega)]
    rw [ha] at hK ⊢
    obtain ⟨K, rfl⟩ : ∃ k', K = k' + 1 := ⟨K - 1, by omega⟩
    rw [pianolalaw08_FlowParts.l0, if_neg (by omega), h.ln]
    simp
  | succ d ih =>
    intro K i hi hK
    have hlt : i < g.length := by omega
    have hE := h.endB i hlt
    have h0 := h.gin (rd g (i : Int)) (by rw [rd_get g i hlt]; exact List.getElem_mem hlt)
    have ha : atB n g i = rd g (i : Int) := by unfold atB; rw [if_pos hlt]
    have ha2 : atB n g (i + 1) = endB n g i := rfl
    rw [ha] at hK ⊢
    have hlast : ((lastB n g i : Nat) : Int) = endB n g i - 1 := by unfold lastB; omega
    obtain ⟨s, hs⟩ := Int.eq_ofNat_of_zero_le h0.1
    rw [hs] at hK hE
    have hsl : s ≤ lastB n g i := by omega
    obtain ⟨K2, rfl⟩ : ∃ k', K = k' + (lastB n g i - s) + 1 + 1 + 1 := ⟨K - (lastB n g i - s) - 3, by omega⟩
    have hn := ih K2 (i + 1) (by omega) (by rw [ha2]; omega)
    rw [ha2] at hn
    have h1 := parts_l1 h i hlt K2 hn (lastB n g i - s) s (by omega) (by omega)
    have hf0 : (blkB l pl g i).f0 = rd g (i : Int) := rfl
    have hf1 : (blkB l pl g i).f1 = endB n g i := by unfold blkB; rw [h.ln]
    have hln := h.ln
    rw [pianolalaw08_FlowParts.l0, if_pos (by omega), if_pos (by omega), rd_blk l pl g i hlt, hf0, hf1, if_pos rfl, if_neg (by omega), decide_eq_false (by omega), pianolalaw08_FlowParts.j2, if_neg (by decide), if_pos (by omega), if_pos (by omega), rd_blk l pl g i hlt, hf0, hs]
    exact h1
theorem FlowParts : Q.FlowParts := by
  intro x0 x1 _ _
  refine ⟨4001, ?_⟩
  have hlives : pianolalaw08_lives.f = some true := rfl
  unfold pianolalaw08_FlowParts.f
  by_cases hl : (x0.length : Int) > 300
  · rw [if_pos hl, hlives]
    rfl
  · rw [if_neg hl]
    obtain ⟨b, hbr, hb⟩ := blocks_run x0 x1 (by omega) 4001 (by omega)
    rw [hb, Option.bind_some, hlives, Option.bind_some, if_pos rfl, pianolalaw08_FlowParts.j0]
    unfold blocksM
    by_cases hc : x0.length = x1.length ∧ x0.length ≠ 0 ∧ b = true
    · rw [if_pos hc]
      by_cases hw : (stGo x0 x1 x0.length 0 (true :: List.replicate x0.length false)).2 = -1
      · rw [if_pos hw]
        by_cases hst : stopsB (opB x0 (x0.length - 1)) = true
        · rw [if_pos hst]
          dsimp only
          rw [if_neg (by decide)]
          have hB := begOK x0 x1 x0.length rfl hc.1.symm (by omega) (hbr.1 hc.2.2) hw
          have hz := hB.z (by omega)
          obtain ⟨j, hj, hjz⟩ := mem_rd hz
          have hg0 : atB x0.length (begL (stGo x0 x1 x0.length 0 (true :: List.replicate x0.length false)).1 x0.length) 0 = 0 := by
            unfold atB
            rw [if_pos (by omega)]
            have h1 := hB.rg.le 0 j (by omega) hj
            have h2 := hB.gin (rd (begL (stGo x0 x1 x0.length 0 (true :: List.replicate x0.length false)).1 x0.length) ((0 : Nat) : Int)) (by rw [rd_get _ 0 (by omega)]; exact List.getElem_mem _)
            omega
          have hp := parts_l0 hB (begL (stGo x0 x1 x0.length 0 (true :: List.replicate x0.length false)).1 x0.length).length 4000 0 (by omega) (by rw [hg0]; have := hB.gl; omega)
          rw [hg0] at hp
          exact hp
        · rw [if_neg hst]
          dsimp only
          rw [if_pos (by decide), hlives]
          rfl
      · rw [if_neg hw]
        dsimp only
        rw [if_pos (by decide), hlives]
        rfl
    · rw [if_neg hc]
      dsimp only
      rw [if_pos (by decide), hlives]
      rfl
end Go.Proofs.Ytpfbfnbffglbkaa.Pure
