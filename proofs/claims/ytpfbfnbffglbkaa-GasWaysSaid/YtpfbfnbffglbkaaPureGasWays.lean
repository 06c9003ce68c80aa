/- No way costs more than the longest: the plain part. -/
import Derived.Test.YtpfbfnbffglbkaaQGasWays
import Derived.Test.YtpfbfnbffglbkaaGasA
import Derived.Test.YtpfbfnbffglbkaaFlowH
set_option linter.unusedVariables false
set_option linter.unusedSimpArgs false
namespace Go.Proofs.Ytpfbfnbffglbkaa.Pure
open Go.RowKit Go.Proofs.Ytpfbfnbffglbkaa.P Go.Proofs.YtpfbfnbffglbkaaW.PrintWords Go.Proofs.YtpfbfnbffglbkaaW.PrintLast Go.Proofs.YtpfbfnbffglbkaaW.PrintMore
theorem lives_ev : Ev (fun k => pianolalaw10_lives.f k) true := ⟨60, fun k hk => lives_at k hk⟩
theorem mem_idx {l : List Int} {i : Int} (h0 : 0 ≤ i) (h1 : i < (l.length : Int)) : rd l i ∈ l := by
  obtain ⟨j, rfl⟩ : ∃ j : Nat, i = (j : Int) := ⟨i.toNat, by omega⟩
  exact rd_at (by omega)
theorem wrap_neg (v : Int) (h : v < 0) (h1 : -9000000000000000000 < v) : wrap64 (-v) = -v := by unfold wrap64; omega
theorem wrap_sum (a c : Int) (h : 0 ≤ a + c) (h1 : a + c ≤ mostG) : wrap64 (a + c) = a + c := by
  unfold mostG at h1
  unfold wrap64
  omega
section
variable (b : List S30) (costs turns : List Int) (L : Int) (pos : Nat → Nat)
theorem ways_l1 (x : Nat) (hx : x < b.length) (hb : b.length ≤ 40) (s : Int) (i : Nat) (hi : i ≤ b.length) (hnl : (nxB b x).length ≤ 17592186044415)
    (next : ∀ t : Nat, t < b.length → (t : Int) ∈ nxB b x → Ev (fun k => pianolalaw10_GasWays.l0 k b costs turns L (t : Int) s ((i + 1 : Nat) : Int)) true) : ∀ (d q : Nat) (acc : List Int), q + d = (nxB b x).length → acc.length ≤ q → (∀ t ∈ acc, t ∈ nxB b x ∧ isN b.length t = true) →
      Ev (fun k => pianolalaw10_GasWays.l1 k b costs turns L (x : Int) s (i : Int) acc (q : Int)) true
  | 0, q, acc, hq, ha, hacc => by
    have hnb : nxB b x = (rd_T30 b (x : Int)).f2 := rfl
    rw [hnb] at hnl hq
    have go : ∀ t ∈ acc, Ev (fun k => pianolalaw10_GasWays.l0 k b costs turns L t s (wrap64 ((i : Int) + 1))) true := by
      intro t ht
      obtain ⟨h1, h2⟩ := hacc t ht
      obtain ⟨j, rfl, hj⟩ := isN_nat h2
      rw [w1 i (by omega)]
      exact next j hj h1
    by_cases h0 : (acc.length : Int) = 0
    · refine ⟨1, fun k hk => ?_⟩
      obtain ⟨k, rfl⟩ : ∃ m, k = m + 1 := ⟨k - 1, by omega⟩
      simp only [pianolalaw10_GasWays.l1]
      rw [if_pos (by omega), if_pos (by omega), if_neg (by omega), if_pos h0]
    · by_cases ht : (i : Int) < (turns.length : Int)
      · have hm1 := Int.tmod_lt_of_pos (rd turns (i : Int)) (show (0 : Int) < (acc.length : Int) by omega)
        have hm2 := Int.lt_tmod_of_pos (rd turns (i : Int)) (show (0 : Int) < (acc.length : Int) by omega)
        obtain ⟨m, hm⟩ : ∃ m, (rd turns (i : Int)).tmod (acc.length : Int) = m := ⟨_, rfl⟩
        rw [hm] at hm1 hm2
        by_cases hneg : m < 0
        · refine Ev.step (fun k => ?_) (go (rd acc (-m)) (mem_idx (by omega) (by omega)))
          simp only [pianolalaw10_GasWays.l1]
          rw [if_pos (by omega), if_pos (by omega), if_neg (by omega), if_neg h0, if_pos ht, if_pos (by omega), hm, if_pos hneg, wrap_neg m hneg (by omega), if_pos (by omega), if_pos (by omega)]
        · refine Ev.step (fun k => ?_) (go (rd acc m) (mem_idx (by omega) (by omega)))
          simp only [pianolalaw10_GasWays.l1]
          rw [if_pos (by omega), if_pos (by omega), if_neg (by omega), if_neg h0, if_pos ht, if_pos (by omega), hm, if_neg hneg, if_pos (by omega), if_pos (by omega)]
      · refine Ev.step (fun k => ?_) (go (rd acc 0) (mem_idx (by omega) (by omega)))
        simp only [pianolalaw10_GasWays.l1]
        rw [if_pos (by omega), if_pos (by omega), if_neg (by omega), if_neg h0, if_neg ht, if_pos (by omega)]
  | d + 1, q, acc, hq, ha, hacc => by
    have hlt : q < (nxB b x).length := by omega
    have hr := rd_of hlt
    have hmem := List.getElem_mem hlt
    obtain ⟨t, ht⟩ : ∃ t, (nxB b x)[q] = t := ⟨_, rfl⟩
    rw [ht] at hr hmem
    have ih := fun acc => ways_l1 x hx hb s i hi hnl next d (q + 1) acc (by omega)
    have hnb : nxB b x = (rd_T30 b (x : Int)).f2 := rfl
    rw [hnb] at hnl hq hr hlt
    by_cases hn : isN b.length t = true
    · obtain ⟨j, rfl, hj⟩ := isN_nat hn
      refine Ev.step (fun k => ?_) (ih (acc ++ [(j : Int)]) (by rw [List.length_append, List.length_singleton]; omega) (fun u hu => by
        rcases List.mem_append.1 hu with hu | hu
        · exact hacc u hu
        · rw [List.mem_singleton] at hu
          subst hu
          exact ⟨hmem, hn⟩))
      simp only [pianolalaw10_GasWays.l1]
      rw [if_pos (by omega), if_pos (by omega), if_pos (by omega), if_pos (by omega), hr, if_pos (by omega), if_pos (by omega), if_pos (by omega), w1 q (by omega)]
    · refine Ev.step (fun k => ?_) (ih acc (by omega) hacc)
      unfold isN at hn
      simp only [pianolalaw10_GasWays.l1]
      rw [if_pos (by omega), if_pos (by omega), if_pos (by omega), if_pos (by omega), hr]
      by_cases h0 : t ≥ 0
      · rw [if_pos h0, if_neg (fun h => hn (by rw [decide_eq_true (show 0 ≤ t from h0), decide_eq_true h]; rfl)), w1 q (by omega)]
      · rw [if_neg h0, w1 q (by omega)]
theorem ways_l0 (hb : b.length ≤ 40) (hcl : costs.length = b.length) (hc : ∀ c ∈ costs, 0 ≤ c) (hnl : ∀ x : Nat, x < b.length → (nxB b x).length ≤ 17592186044415) (hG : GoodG (nxB b) b.length costs pos (ordB b) L)
    (hpos : ∀ x : Nat, (x : Int) ∈ ordB b → pos x < b.length) (hreach : ∀ x : Nat, Rch (nxB b) b.length 0 x → (x : Int) ∈ ordB b ∧ x < b.length) : ∀ (d i x : Nat) (s0 : Int), i + d = b.length → 0 ≤ s0 → PS (nxB b) b.length costs i x (s0 + rd costs (x : Int)) →
      Ev (fun k => pianolalaw10_GasWays.l0 k b costs turns L (x : Int) s0 (i : Int)) true
  | 0, i, x, s0, hi, h0, hp => by
    have h1 := (hG.le i x _ hp).2
    have h2 := hpos x (hreach x hp.rch).1
    omega
  | d + 1, i, x, s0, hi, h0, hp => by
    have hx := (hreach x hp.rch).2
    have h1 := (hG.le i x _ hp).1
    have h2 := hG.top
    have h3 : 0 ≤ rd costs (x : Int) := hc _ (rd_at (by omega))
    refine Ev.step (fun k => ?_) (ways_l1 b costs turns L x hx hb (s0 + rd costs (x : Int)) i (by omega) (hnl x hx) (fun t ht htm => ?_) (nxB b x).length 0 [] (by omega) (Nat.zero_le _) (fun t ht => absurd ht (by simp)))
    · simp only [pianolalaw10_GasWays.l0]
      rw [if_pos (by omega), if_pos (by omega), if_pos (by omega), wrap_sum _ _ (by omega) (by omega), if_neg (by omega)]
      rfl
    · exact ways_l0 hb hcl hc hnl hG hpos hreach d (i + 1) t _ (by omega) (by omega) (PS.step hp ht htm)
end
theorem GasWays : Q.GasWays := by
  intro x0 x1 x2 h0 h1 h2
  have hwf : ∀ c ∈ x1, c ≤ 9223372036854775807 := by
    intro c hc
    have := wfA (h1.1 c hc)
    omega
  have hb : x0.length ≤ 3600000000000 := by
    have := h0.2
    unfold reachBytes at this
    omega
  have hnl : ∀ x : Nat, x < x0.length → (nxB x0 x).length ≤ 17592186044415 := by
    intro x hx
    have : rd_T30 x0 (x : Int) ∈ x0 := by
      unfold rd_T30
      rw [Int.toNat_natCast, List.getD_eq_getElem?_getD, List.getElem?_eq_getElem hx]
      exact List.getElem_mem hx
    have := (h0.1 _ this).2.2.2
    unfold reachBytes at this
    unfold nxB
    omega
  apply Ev.rounds
  unfold pianolalaw10_GasWays.f
  refine Ev.bind (longest_ev x0 x1 hb hwf hnl) (Ev.bind lives_ev ?_)
  have no : ∀ n, Ev (fun k => pianolalaw10_GasWays.j0 k x0 x1 x2 n true) true := by
    intro n
    refine Ev.step (fun k => ?_) (Ev.bind lives_ev (f := fun _ t => some t) (Ev.now true))
    simp only [pianolalaw10_GasWays.j0]
    rw [if_pos trivial]
  simp only [if_true]
  by_cases hok : (resG x0 x1).2 = true
  · simp only [hok, if_true]
    by_cases hl : (x0.length : Int) > 40
    · rw [decide_eq_true hl]
      exact no _
    · rw [decide_eq_false hl]
      obtain ⟨c1, c2, c3⟩ := resG_true x0 x1 hok
      obtain ⟨pos, hP, ⟨L, hr, hG⟩ | ⟨hr, _⟩⟩ := resG_spec x0 x1 c1 c2 c3
      · rw [hr]
        have hO := ordOK_B x0 c1
        have e := ways_l0 x0 x1 x2 L pos (by omega) c2 c3 hnl hG (fun x hx => by have := hP.at_ x hx; have := hO.le; omega) (fun x hx => ⟨(hO.reach x).2 hx, hx.lt c1⟩) x0.length 0 0 0 (by omega) (Int.le_refl _) (by rw [Int.zero_add]; exact PS.zero)
        refine Ev.step (fun k => ?_) e
        simp only [pianolalaw10_GasWays.j0]
        rw [if_neg (by simp)]
        rfl
      · rw [hr] at hok
        cases hok
  · simp only [hok]
    exact no _
end Go.Proofs.Ytpfbfnbffglbkaa.Pure
