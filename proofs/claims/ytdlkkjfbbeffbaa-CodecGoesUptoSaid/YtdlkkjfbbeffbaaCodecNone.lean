/- codec: a field that nothing made; just so many bytes, in plain Lean; no statement of the seat. -/
import Derived.Test.YtdlkkjfbbeffbaaCodecPl
set_option linter.unusedVariables false
set_option linter.unusedSimpArgs false
namespace Go.Proofs.Ytdlkkjfbbeffbaa.P
open Go.RowKit Go.Proofs.YtdlkkjfbbeffbaaW.PrintWords Go.Proofs.YtdlkkjfbbeffbaaW.PrintLast Go.Proofs.YtdlkkjfbbeffbaaW.PrintMore
set_option maxRecDepth 100000 in
set_option maxHeartbeats 400000 in
theorem enc_none (x : Int) (w : World) : Calls Try.prog 24 #[.agg #[.nilFunc, .nilFunc], .int .i64 x] w fun r w' => r = .returned (.tuple #[.slice none 0 0, .int .i64 6]) ∧ Below w.heap.size w w' := by
  have hnn : ∀ W, (binOp .eql 34 .nilFunc .nilFunc).run Try.prog W = .ok (.bool true) W := fun _ => by kernel_rfl
  go_enter Try.func24, Try.ntmps24
  go_wp2_with fail
  go_ret2
  exact ⟨rfl, below_alloc (Below.refl _ _) _⟩
set_option maxRecDepth 100000 in
set_option maxHeartbeats 400000 in
theorem fst_none (A : Option Addr) (n c : Nat) (w : World) : Calls Try.prog 28 #[.agg #[.nilFunc, .nilFunc], .slice A n c] w fun r w' => r = .returned (.tuple #[.int .i64 0, .int .i64 0, .int .i64 6]) ∧ Below w.heap.size w w' := by
  have hnn : ∀ W, (binOp .eql 35 .nilFunc .nilFunc).run Try.prog W = .ok (.bool true) W := fun _ => by kernel_rfl
  go_enter Try.func28, Try.ntmps28
  go_wp2_with fail
  go_ret3
  exact ⟨rfl, below_alloc (Below.refl _ _) _⟩
set_option maxRecDepth 100000 in
set_option maxHeartbeats 400000 in
theorem dec_none (A : Option Addr) (n c : Nat) (w : World) : Calls Try.prog 26 #[.agg #[.nilFunc, .nilFunc], .slice A n c] w fun r w' => r = .returned (.tuple #[.int .i64 0, .int .i64 6]) ∧ Below w.heap.size w w' := by
  go_enter Try.func26, Try.ntmps26
  go_wp2_with fail
  refine (fst_none A n c _).mono ?_
  rintro r w2 ⟨rfl, hb⟩
  have HB := Aside0.mk (show Below w.heap.size w w2 from (below_alloc (Below.refl _ _) _).trans (hb.mono (by simp only [World.size_alloc]; omega)))
  clear hb
  go_wp2_with fail
  go_ret2
  exact ⟨rfl, HB.out⟩
theorem encR_fix (n : Int) (b : List Int) : encR (fixS n ([], 0) b) = if mayN n = true ∧ (b.length : Int) = n then (b, 0) else ([], 1) := by
  unfold fixS
  by_cases h : mayN n = true ∧ (b.length : Int) = n
  · rw [if_pos h, if_neg (by simp [h.1, h.2])]
    have hm := h.1
    unfold mayN at hm
    rw [Bool.and_eq_true, decide_eq_true_eq, decide_eq_true_eq] at hm
    unfold putS
    rw [if_neg (by simp), if_neg (by simp only [List.length_nil]; omega)]
    rfl
  · rw [if_neg h, if_pos ⟨rfl, by
      by_cases hm : mayN n = true
      · exact .inr (fun e => h ⟨hm, e⟩)
      · exact .inl (by simpa using hm)⟩]
    unfold putS
    rw [if_pos (by simp)]
    rfl
theorem fst_bad {α : Type} (G : List Int × Bool → α × List Int × Bool) (z : α) (b : List Int) (h : (G (b, false)).2.2 = true) : fstR G z b = (z, 0, 10) := by
  unfold fstR
  rw [h, Bool.true_or, if_pos rfl]
theorem dec_bad {α : Type} (G : List Int × Bool → α × List Int × Bool) (z : α) (b : List Int) (h : (G (b, false)).2.2 = true) : decR G z b = (z, 10) := by
  unfold decR
  rw [fst_bad G z b h]
  rfl
theorem fst_good {α : Type} (G : List Int × Bool → α × List Int × Bool) (z : α) (b : List Int) (x : α) (r : List Int) (h : G (b, false) = (x, r, false)) (hl : (b.length : Int) - (r.length : Int) ≤ 1048576) : fstR G z b = (x, (b.length : Int) - (r.length : Int), 0) := by
  unfold fstR
  rw [h]
  rw [if_neg (by simp only [Bool.false_or, decide_eq_true_eq]; omega)]
theorem dec_good {α : Type} (G : List Int × Bool → α × List Int × Bool) (z : α) (b : List Int) (x : α) (h : G (b, false) = (x, [], false)) (hl : (b.length : Int) ≤ 1048576) : decR G z b = (x, 0) := by
  have hf := fst_good G z b x [] h (by simpa using hl)
  unfold decR
  rw [hf]
  rw [if_neg (by simp), if_neg (by simp)]
theorem dec_more {α : Type} (G : List Int × Bool → α × List Int × Bool) (z : α) (b : List Int) (x : α) (r : List Int) (h : G (b, false) = (x, r, false)) (hl : (b.length : Int) - (r.length : Int) ≤ 1048576) (hr : 0 < r.length) : decR G z b = (z, 10) := by
  have hf := fst_good G z b x r h hl
  unfold decR
  rw [hf]
  rw [if_neg (by simp), if_pos (by simp only; omega)]
theorem decR_fix (n : Int) (b : List Int) : decR (fixG n) [] b = if mayN n = true ∧ (b.length : Int) = n then (b, 0) else ([], 10) := by
  by_cases hm : mayN n = true
  · have hm' := hm
    unfold mayN at hm'
    rw [Bool.and_eq_true, decide_eq_true_eq, decide_eq_true_eq] at hm'
    have hg : fixG n (b, false) = takeS (b, false) n := by unfold fixG; rw [hm]; rfl
    by_cases hl : n > (b.length : Int)
    · rw [if_neg (by omega)]
      exact dec_bad _ _ _ (by rw [hg]; unfold takeS; rw [if_pos (Or.inr (Or.inr hl))])
    · have ht : takeS (b, false) n = (b.take n.toNat, b.drop n.toNat, false) := by
        unfold takeS
        rw [if_neg (by simp only [Bool.false_eq_true, false_or, not_or]; omega)]
      have hlen : (b.length : Int) - ((b.drop n.toNat).length : Int) = n := by rw [List.length_drop]; omega
      by_cases he : (b.length : Int) = n
      · rw [if_pos ⟨hm, he⟩]
        refine dec_good _ _ _ _ (by rw [hg, ht, List.take_of_length_le (by omega), List.drop_of_length_le (by omega)]) (by omega)
      · rw [if_neg (fun h => he h.2)]
        exact dec_more _ _ _ _ _ (hg.trans ht) (by omega) (by rw [List.length_drop]; omega)
  · rw [if_neg (fun h => hm h.1)]
    refine dec_bad _ _ _ ?_
    unfold fixG
    have hm : mayN n = false := by simpa using hm
    rw [hm]
    unfold takeS
    rw [if_pos (Or.inl (show ((b, false).1, (b, false).2 || !false).2 = true from rfl))]
/-- Are these bytes, and may they lie in memory? -/
def okBytes (b : List Int) : Bool := (b.all fun x => decide (0 ≤ x) && decide (x < 256)) && decide (b.length ≤ 140737488355328)
theorem okBytes_is {b : List Int} (h : okBytes b = true) : okL b := by
  unfold okBytes at h
  rw [Bool.and_eq_true, List.all_eq_true, decide_eq_true_eq] at h
  refine ⟨fun x hx => ?_, h.2⟩
  have := h.1 x hx
  rw [Bool.and_eq_true, decide_eq_true_eq, decide_eq_true_eq] at this
  exact this
theorem okBytes_of (b : List Int) (h : ∀ y ∈ b, (Lit.int .u8 y).wf = true) (hl : b.length * 1 ≤ reachBytes) : okBytes b = true := by
  unfold okBytes
  rw [Bool.and_eq_true, List.all_eq_true, decide_eq_true_eq]
  refine ⟨fun x hx => ?_, by unfold reachBytes at hl; omega⟩
  have := h x hx
  simp [Lit.wf, IntKind.min, IntKind.max, IntKind.bits, IntKind.signed] at this
  rw [Bool.and_eq_true, decide_eq_true_eq, decide_eq_true_eq]
  omega
end Go.Proofs.Ytdlkkjfbbeffbaa.P
