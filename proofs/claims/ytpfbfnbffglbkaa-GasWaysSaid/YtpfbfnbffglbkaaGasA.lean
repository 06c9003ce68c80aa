/- What ops and blocks cost: plain; no statement of the seat. -/
import Derived.Test.YtpfbfnbffglbkaaPF29
import Derived.Test.YtpfbfnbffglbkaaPF30
import Derived.Test.YtpfbfnbffglbkaaPF26
import Derived.Test.YtpfbfnbffglbkaaPF25
set_option linter.unusedVariables false
set_option linter.unusedSimpArgs false
namespace Go.Proofs.Ytpfbfnbffglbkaa.P
open Go.RowKit Go.Proofs.YtpfbfnbffglbkaaW.PrintWords Go.Proofs.YtpfbfnbffglbkaaW.PrintLast Go.Proofs.YtpfbfnbffglbkaaW.PrintMore
theorem name_out (a : Int) (h : a < 0 ∨ 50 < a) : instr_Name.f a = some (⟨#[]⟩ : ByteArray) := by
  have hr : instr_reckons.f a = some (⟨#[]⟩ : ByteArray) := by
    unfold instr_reckons.f
    repeat' first
      | rw [if_neg (by omega)]
      | rfl
  unfold instr_Name.f
  repeat' first
    | rw [if_neg (by omega)]
  rw [hr]
  rfl
theorem known_out (a : Int) (h : a < 0 ∨ 50 < a) : instr_Known.f a = some false := by
  unfold instr_Known.f
  rw [name_out a h]
  kernel_rfl
theorem rname_out (k : Nat) (a : Int) (h : a < 0 ∨ 50 < a) : pianolaref05_Name.f (k + 1) a = some (⟨#[]⟩ : ByteArray) := by
  unfold pianolaref05_Name.f
  simp only [Option.bind_some]
  by_cases c : a ≥ 0
  · rw [if_pos c, pianolaref05_Name.j0, if_neg (by simp; omega), if_neg (by omega), if_neg (by omega), if_neg (by omega)]
  · rw [if_neg c, pianolaref05_Name.j0, if_neg (by decide), if_neg (by omega), if_neg (by omega), if_neg (by omega)]
theorem rknown_out (k : Nat) (a : Int) (h : a < 0 ∨ 50 < a) : pianolaref05_Known.f (k + 1) a = some false := by
  unfold pianolaref05_Known.f
  rw [rname_out k a h]
  kernel_rfl
theorem size_out (k : Nat) (a : Int) (h : a < 0 ∨ 50 < a) : instr_Size.f (k + 2) a = some 0 := by
  unfold instr_Size.f
  rw [if_neg (by omega), if_neg (by omega), instr_Size.j0, if_neg (by simp; omega), if_neg (by omega), if_neg (by omega), if_neg (by omega), instr_Size.j1, if_neg (by simp; omega), known_out a h]
  rfl
/-- An op's cost. -/
def cst (a : Int) : Int := (gas_Cost.f 30 a).getD 0
theorem cst_in : ((List.range 51).all fun a => (gas_Cost.f 30 (a : Int) == some (cst (a : Int))) && (pianolaref10_Cost.f 30 (a : Int) == some (cst (a : Int)))) = true := by kernel_rfl
theorem cst_is (a : Int) : gas_Cost.f 30 a = some (cst a) ∧ pianolaref10_Cost.f 30 a = some (cst a) := by
  by_cases h : a < 0 ∨ 50 < a
  · have h1 : gas_Cost.f 30 a = some 0 := by
      unfold gas_Cost.f
      rw [if_neg (by omega), if_neg (by omega), gas_Cost.j0, if_neg (by simp; omega), if_neg (by omega), if_neg (by omega), if_neg (by omega), if_neg (by omega), if_neg (by omega), if_neg (by omega), size_out 27 a h]
      rfl
    have h2 : pianolaref10_Cost.f 30 a = some 0 := by
      unfold pianolaref10_Cost.f
      rw [if_neg (by omega), if_neg (by omega), pianolaref10_Cost.j0, if_neg (by simp; omega), if_neg (by omega), if_neg (by omega), if_neg (by omega), if_neg (by omega), if_neg (by omega), if_neg (by omega), rknown_out 28 a h]
      rfl
    have hc : cst a = 0 := by unfold cst; rw [h1]; rfl
    rw [hc]
    exact ⟨h1, h2⟩
  · have h := List.all_eq_true.mp cst_in a.toNat (List.mem_range.mpr (by omega))
    simp only [Bool.and_eq_true, beq_iff_eq, Int.toNat_of_nonneg (show 0 ≤ a by omega)] at h
    exact h
theorem cost_at (k : Nat) (hk : 30 ≤ k) (a : Int) : gas_Cost.f k a = some (cst a) := at_rounds (gas_Cost.mono a) hk (cst_is a).1
theorem rcost_at (k : Nat) (hk : 30 ≤ k) (a : Int) : pianolaref10_Cost.f k a = some (cst a) := at_rounds (pianolaref10_Cost.mono a) hk (cst_is a).2
/-- What some instructions cost, those between two places. -/
def gsum (l : List S34) (lo hi : Int) : Nat → Int → Nat → Int
  | 0, acc, _ => acc
  | d + 1, acc, i => gsum l lo hi d (if lo ≤ (i : Int) ∧ (i : Int) < hi then wrap64 (acc + cst (rd_T34 l (i : Int)).f0) else acc) (i + 1)
theorem gsum_end (l : List S34) (lo hi : Int) : ∀ (d : Nat) (acc : Int) (i : Nat), hi ≤ (i : Int) → gsum l lo hi d acc i = acc
  | 0, _, _, _ => rfl
  | d + 1, acc, i, h => by rw [gsum, if_neg (by omega)]; exact gsum_end l lo hi d acc (i + 1) (by omega)
theorem gsum_skip (l : List S34) (lo hi : Int) : ∀ (e d : Nat) (acc : Int) (i : Nat), ((i + e : Nat) : Int) ≤ lo → gsum l lo hi (e + d) acc i = gsum l lo hi d acc (i + e)
  | 0, d, acc, i, _ => by rw [Nat.zero_add, Nat.add_zero]
  | e + 1, d, acc, i, h => by
    rw [show e + 1 + d = (e + d) + 1 by omega, gsum, if_neg (by omega), gsum_skip l lo hi e d acc (i + 1) (by omega)]
    congr 1
    omega
theorem ref_block (l : List S34) (lo hi : Int) (nx : List Int) (hl : l.length < 4611686018427387904) : ∀ (d K : Nat) (acc : Int) (i : Nat), i + d = l.length → pianolaref10_Block.l0 (d + 1 + (30 + K)) l acc (i : Int) lo hi nx = some (gsum l lo hi d acc i)
  | 0, K, acc, i, h => by
    rw [show 0 + 1 + (30 + K) = (30 + K) + 1 by omega, pianolaref10_Block.l0, if_neg (by omega)]
    rfl
  | d + 1, K, acc, i, h => by
    have hw : wrap64 ((i : Int) + 1) = ((i + 1 : Nat) : Int) := by unfold wrap64; omega
    rw [show d + 1 + 1 + (30 + K) = (d + 1 + (30 + K)) + 1 by omega, pianolaref10_Block.l0, if_pos (by omega), hw, gsum]
    by_cases h1 : (i : Int) ≥ lo
    · rw [if_pos h1]
      by_cases h2 : (i : Int) < hi
      · rw [if_pos h2, if_pos (by omega), rcost_at _ (by omega), Option.bind_some, ref_block l lo hi nx hl d K _ (i + 1) (by omega), if_pos ⟨h1, h2⟩]
      · rw [if_neg h2, ref_block l lo hi nx hl d K _ (i + 1) (by omega), if_neg (fun h => h2 h.2)]
    · rw [if_neg h1, ref_block l lo hi nx hl d K _ (i + 1) (by omega), if_neg (fun h => h1 h.1)]
theorem gas_block (l : List S34) (lo hi : Int) (nx : List Int) (hl : l.length < 4611686018427387904) : ∀ (d K : Nat) (acc : Int) (i : Nat), i + d = l.length → lo ≤ (i : Int) → gas_Block.l0 (d + 1 + (30 + K)) l acc (i : Int) lo hi nx = some (gsum l lo hi d acc i)
  | 0, K, acc, i, h, hlo => by
    rw [show 0 + 1 + (30 + K) = (30 + K) + 1 by omega, gas_Block.l0, if_neg (by unfold mn; split <;> omega)]
    rfl
  | d + 1, K, acc, i, h, hlo => by
    have hw : wrap64 ((i : Int) + 1) = ((i + 1 : Nat) : Int) := by unfold wrap64; omega
    rw [show d + 1 + 1 + (30 + K) = (d + 1 + (30 + K)) + 1 by omega, gas_Block.l0]
    by_cases h2 : (i : Int) < hi
    · rw [if_pos (by unfold mn; split <;> omega), hw, gsum]
      rw [if_pos (by omega), if_pos (by omega), cost_at _ (by omega), Option.bind_some, gas_block l lo hi nx hl d K _ (i + 1) (by omega) (by omega), if_pos ⟨hlo, h2⟩]
    · rw [if_neg (by unfold mn; split <;> omega), gsum_end l lo hi _ _ _ (by omega)]
/-- A block's cost by both. -/
theorem blocks_same (l : List S34) (lo hi : Int) (nx : List Int) (hl : l.length < 4611686018427387904) (k : Nat) (hk : l.length + 31 ≤ k) : ∃ r, gas_Block.f k l lo hi nx = some r ∧ pianolaref10_Block.f k l lo hi nx = some r := by
  refine ⟨gsum l lo hi l.length 0 0, ?_, ?_⟩
  · unfold gas_Block.f
    by_cases h0 : lo ≤ 0
    · have e : mx lo 0 = ((0 : Nat) : Int) := by unfold mx; split <;> omega
      rw [e]
      have h := gas_block l lo hi nx hl l.length (k - (l.length + 31)) 0 0 (by omega) (by omega)
      rw [show l.length + 1 + (30 + (k - (l.length + 31))) = k by omega] at h
      exact h
    · obtain ⟨n, rfl⟩ := Int.eq_ofNat_of_zero_le (show 0 ≤ lo by omega)
      have e : mx (n : Int) 0 = (n : Int) := by unfold mx; split <;> omega
      rw [e]
      by_cases hn : n ≤ l.length
      · have h := gas_block l (n : Int) hi nx hl (l.length - n) (k - (l.length - n + 31)) 0 n (by omega) (by omega)
        rw [show l.length - n + 1 + (30 + (k - (l.length - n + 31))) = k by omega] at h
        have hs := gsum_skip l (n : Int) hi n (l.length - n) 0 0 (by omega)
        rw [show n + (l.length - n) = l.length by omega, Nat.zero_add] at hs
        rw [hs]
        exact h
      · obtain ⟨k', rfl⟩ : ∃ m, k = m + 1 := ⟨k - 1, by omega⟩
        rw [gas_Block.l0, if_neg (by unfold mn; split <;> omega)]
        have hs := gsum_skip l (n : Int) hi l.length 0 0 0 (by omega)
        rw [Nat.add_zero] at hs
        rw [hs]
        rfl
  · unfold pianolaref10_Block.f
    have h := ref_block l lo hi nx hl l.length (k - (l.length + 31)) 0 0 (by omega)
    rw [show l.length + 1 + (30 + (k - (l.length + 31))) = k by omega] at h
    exact h
theorem gas_lives : pianolalaw10_lives.f 60 = some true := by decide +kernel
theorem lives_at (k : Nat) (hk : 60 ≤ k) : pianolalaw10_lives.f k = some true := at_rounds pianolalaw10_lives.mono hk gas_lives
end Go.Proofs.Ytpfbfnbffglbkaa.P
