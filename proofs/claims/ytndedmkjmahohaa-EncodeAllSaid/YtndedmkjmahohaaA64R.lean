/- Encode answers, and its word is of 32 bits: plain arithmetic; no statement of the seat. -/
import Derived.Test.YtndedmkjmahohaaA64
set_option linter.unusedVariables false
set_option linter.unusedSimpArgs false
namespace Go.Proofs.Ytndedmkjmahohaa.A64
open Go.RowKit Go.Proofs.Ytndedmkjmahohaa.P Go.Proofs.YtndedmkjmahohaaW.PrintWords Go.Proofs.YtndedmkjmahohaaW.PrintLast Go.Proofs.YtndedmkjmahohaaW.PrintMore
/-- A word is of 32 bits. -/
theorem enc_range (op rd rn rm ra imm shift cond : Int) (W e : Int) (h : encode_Encode.f op rd rn rm ra imm shift cond = some (W, e)) : 0 ≤ W ∧ W < 4294967296 := by
  by_cases h0 : op < 1 ∨ 31 < op
  · rw [enc_none _ _ _ _ _ _ _ _ h0] at h
    simp only [Option.some.injEq, Prod.mk.injEq] at h
    omega
  · have hc : op = 1 ∨ op = 2 ∨ op = 3 ∨ op = 4 ∨ op = 5 ∨ op = 6 ∨ op = 7 ∨ op = 8 ∨ op = 9 ∨ op = 10 ∨ op = 11 ∨ op = 12 ∨ op = 13 ∨ op = 14 ∨ op = 15 ∨ op = 16 ∨ op = 17 ∨ op = 18 ∨ op = 19 ∨ op = 20 ∨ op = 21 ∨ op = 22 ∨ op = 23 ∨ op = 24 ∨ op = 25 ∨ op = 26 ∨ op = 27 ∨ op = 28 ∨ op = 29 ∨ op = 30 ∨ op = 31 := by omega
    rcases hc with rfl | rfl | rfl | rfl | rfl | rfl | rfl | rfl | rfl | rfl | rfl | rfl | rfl | rfl | rfl | rfl | rfl | rfl | rfl | rfl | rfl | rfl | rfl | rfl | rfl | rfl | rfl | rfl | rfl | rfl | rfl
    · rw [enc1] at h
      by_cases hC : CR3 rd rn rm ra imm shift cond
      · rw [if_pos hC] at h
        simp only [Option.some.injEq, Prod.mk.injEq, VR3] at h
        simp only [CR3] at hC
        omega
      · rw [if_neg hC] at h
        simp only [Option.some.injEq, Prod.mk.injEq] at h
        omega
    · rw [enc2] at h
      by_cases hC : CR3 rd rn rm ra imm shift cond
      · rw [if_pos hC] at h
        simp only [Option.some.injEq, Prod.mk.injEq, VR3] at h
        simp only [CR3] at hC
        omega
      · rw [if_neg hC] at h
        simp only [Option.some.injEq, Prod.mk.injEq] at h
        omega
    · rw [enc3] at h
      by_cases hC : CR3 rd rn rm ra imm shift cond
      · rw [if_pos hC] at h
        simp only [Option.some.injEq, Prod.mk.injEq, VR3] at h
        simp only [CR3] at hC
        omega
      · rw [if_neg hC] at h
        simp only [Option.some.injEq, Prod.mk.injEq] at h
        omega
    · rw [enc4] at h
      by_cases hC : CRI rd rn rm ra imm shift cond
      · rw [if_pos hC] at h
        simp only [Option.some.injEq, Prod.mk.injEq, VRI] at h
        simp only [CRI] at hC
        omega
      · rw [if_neg hC] at h
        simp only [Option.some.injEq, Prod.mk.injEq] at h
        omega
    · rw [enc5] at h
      by_cases hC : CRI rd rn rm ra imm shift cond
      · rw [if_pos hC] at h
        simp only [Option.some.injEq, Prod.mk.injEq, VRI] at h
        simp only [CRI] at hC
        omega
      · rw [if_neg hC] at h
        simp only [Option.some.injEq, Prod.mk.injEq] at h
        omega
    · rw [enc6] at h
      by_cases hC : CRI rd rn rm ra imm shift cond
      · rw [if_pos hC] at h
        simp only [Option.some.injEq, Prod.mk.injEq, VRI] at h
        simp only [CRI] at hC
        omega
      · rw [if_neg hC] at h
        simp only [Option.some.injEq, Prod.mk.injEq] at h
        omega
    · rw [enc7] at h
      by_cases hC : CR3 rd rn rm ra imm shift cond
      · rw [if_pos hC] at h
        simp only [Option.some.injEq, Prod.mk.injEq, VR3] at h
        simp only [CR3] at hC
        omega
      · rw [if_neg hC] at h
        simp only [Option.some.injEq, Prod.mk.injEq] at h
        omega
    · rw [enc8] at h
      by_cases hC : CR3 rd rn rm ra imm shift cond
      · rw [if_pos hC] at h
        simp only [Option.some.injEq, Prod.mk.injEq, VR3] at h
        simp only [CR3] at hC
        omega
      · rw [if_neg hC] at h
        simp only [Option.some.injEq, Prod.mk.injEq] at h
        omega
    · rw [enc9] at h
      by_cases hC : CR3 rd rn rm ra imm shift cond
      · rw [if_pos hC] at h
        simp only [Option.some.injEq, Prod.mk.injEq, VR3] at h
        simp only [CR3] at hC
        omega
      · rw [if_neg hC] at h
        simp only [Option.some.injEq, Prod.mk.injEq] at h
        omega
    · rw [enc10] at h
      by_cases hC : CR3 rd rn rm ra imm shift cond
      · rw [if_pos hC] at h
        simp only [Option.some.injEq, Prod.mk.injEq, VR3] at h
        simp only [CR3] at hC
        omega
      · rw [if_neg hC] at h
        simp only [Option.some.injEq, Prod.mk.injEq] at h
        omega
    · rw [enc11] at h
      by_cases hC : CR4 rd rn rm ra imm shift cond
      · rw [if_pos hC] at h
        simp only [Option.some.injEq, Prod.mk.injEq, VR4] at h
        simp only [CR4] at hC
        omega
      · rw [if_neg hC] at h
        simp only [Option.some.injEq, Prod.mk.injEq] at h
        omega
    · rw [enc12] at h
      by_cases hC : CR4 rd rn rm ra imm shift cond
      · rw [if_pos hC] at h
        simp only [Option.some.injEq, Prod.mk.injEq, VR4] at h
        simp only [CR4] at hC
        omega
      · rw [if_neg hC] at h
        simp only [Option.some.injEq, Prod.mk.injEq] at h
        omega
    · rw [enc13] at h
      by_cases hC : CR3 rd rn rm ra imm shift cond
      · rw [if_pos hC] at h
        simp only [Option.some.injEq, Prod.mk.injEq, VR3] at h
        simp only [CR3] at hC
        omega
      · rw [if_neg hC] at h
        simp only [Option.some.injEq, Prod.mk.injEq] at h
        omega
    · rw [enc14] at h
      by_cases hC : CR3 rd rn rm ra imm shift cond
      · rw [if_pos hC] at h
        simp only [Option.some.injEq, Prod.mk.injEq, VR3] at h
        simp only [CR3] at hC
        omega
      · rw [if_neg hC] at h
        simp only [Option.some.injEq, Prod.mk.injEq] at h
        omega
    · rw [enc15] at h
      by_cases hC : CR3 rd rn rm ra imm shift cond
      · rw [if_pos hC] at h
        simp only [Option.some.injEq, Prod.mk.injEq, VR3] at h
        simp only [CR3] at hC
        omega
      · rw [if_neg hC] at h
        simp only [Option.some.injEq, Prod.mk.injEq] at h
        omega
    · rw [enc16] at h
      by_cases hC : CMV rd rn rm ra imm shift cond
      · rw [if_pos hC] at h
        simp only [Option.some.injEq, Prod.mk.injEq, VMV] at h
        simp only [CMV] at hC
        omega
      · rw [if_neg hC] at h
        simp only [Option.some.injEq, Prod.mk.injEq] at h
        omega
    · rw [enc17] at h
      by_cases hC : CMV rd rn rm ra imm shift cond
      · rw [if_pos hC] at h
        simp only [Option.some.injEq, Prod.mk.injEq, VMV] at h
        simp only [CMV] at hC
        omega
      · rw [if_neg hC] at h
        simp only [Option.some.injEq, Prod.mk.injEq] at h
        omega
    · rw [enc18] at h
      by_cases hC : CMV rd rn rm ra imm shift cond
      · rw [if_pos hC] at h
        simp only [Option.some.injEq, Prod.mk.injEq, VMV] at h
        simp only [CMV] at hC
        omega
      · rw [if_neg hC] at h
        simp only [Option.some.injEq, Prod.mk.injEq] at h
        omega
    · rw [enc19] at h
      by_cases hC : CRI rd rn rm ra imm shift cond
      · rw [if_pos hC] at h
        simp only [Option.some.injEq, Prod.mk.injEq, VRI] at h
        simp only [CRI] at hC
        omega
      · rw [if_neg hC] at h
        simp only [Option.some.injEq, Prod.mk.injEq] at h
        omega
    · rw [enc20] at h
      by_cases hC : CRI rd rn rm ra imm shift cond
      · rw [if_pos hC] at h
        simp only [Option.some.injEq, Prod.mk.injEq, VRI] at h
        simp only [CRI] at hC
        omega
      · rw [if_neg hC] at h
        simp only [Option.some.injEq, Prod.mk.injEq] at h
        omega
    · rw [enc21] at h
      by_cases hC : CCS rd rn rm ra imm shift cond
      · rw [if_pos hC] at h
        simp only [Option.some.injEq, Prod.mk.injEq, VCS] at h
        simp only [CCS] at hC
        omega
      · rw [if_neg hC] at h
        simp only [Option.some.injEq, Prod.mk.injEq] at h
        omega
    · rw [enc22] at h
      by_cases hC : CCS rd rn rm ra imm shift cond
      · rw [if_pos hC] at h
        simp only [Option.some.injEq, Prod.mk.injEq, VCS] at h
        simp only [CCS] at hC
        omega
      · rw [if_neg hC] at h
        simp only [Option.some.injEq, Prod.mk.injEq] at h
        omega
    · rw [enc23] at h
      by_cases hC : CBR rd rn rm ra imm shift cond
      · rw [if_pos hC] at h
        simp only [Option.some.injEq, Prod.mk.injEq, VBR] at h
        simp only [CBR] at hC
        omega
      · rw [if_neg hC] at h
        simp only [Option.some.injEq, Prod.mk.injEq] at h
        omega
    · rw [enc24] at h
      by_cases hC : CBR rd rn rm ra imm shift cond
      · rw [if_pos hC] at h
        simp only [Option.some.injEq, Prod.mk.injEq, VBR] at h
        simp only [CBR] at hC
        omega
      · rw [if_neg hC] at h
        simp only [Option.some.injEq, Prod.mk.injEq] at h
        omega
    · rw [enc25] at h
      by_cases hC : CWH rd rn rm ra imm shift cond
      · rw [if_pos hC] at h
        simp only [Option.some.injEq, Prod.mk.injEq, VWH] at h
        simp only [CWH] at hC
        omega
      · rw [if_neg hC] at h
        simp only [Option.some.injEq, Prod.mk.injEq] at h
        omega
    · rw [enc26] at h
      by_cases hC : CZR rd rn rm ra imm shift cond
      · rw [if_pos hC] at h
        simp only [Option.some.injEq, Prod.mk.injEq, VZR] at h
        simp only [CZR] at hC
        omega
      · rw [if_neg hC] at h
        simp only [Option.some.injEq, Prod.mk.injEq] at h
        omega
    · rw [enc27] at h
      by_cases hC : CZR rd rn rm ra imm shift cond
      · rw [if_pos hC] at h
        simp only [Option.some.injEq, Prod.mk.injEq, VZR] at h
        simp only [CZR] at hC
        omega
      · rw [if_neg hC] at h
        simp only [Option.some.injEq, Prod.mk.injEq] at h
        omega
    · rw [enc28] at h
      by_cases hC : CRT rd rn rm ra imm shift cond
      · rw [if_pos hC] at h
        simp only [Option.some.injEq, Prod.mk.injEq, VRT] at h
        simp only [CRT] at hC
        omega
      · rw [if_neg hC] at h
        simp only [Option.some.injEq, Prod.mk.injEq] at h
        omega
    · rw [enc29] at h
      by_cases hC : CSV rd rn rm ra imm shift cond
      · rw [if_pos hC] at h
        simp only [Option.some.injEq, Prod.mk.injEq, VSV] at h
        simp only [CSV] at hC
        omega
      · rw [if_neg hC] at h
        simp only [Option.some.injEq, Prod.mk.injEq] at h
        omega
    · rw [enc30] at h
      by_cases hC : CSV rd rn rm ra imm shift cond
      · rw [if_pos hC] at h
        simp only [Option.some.injEq, Prod.mk.injEq, VSV] at h
        simp only [CSV] at hC
        omega
      · rw [if_neg hC] at h
        simp only [Option.some.injEq, Prod.mk.injEq] at h
        omega
    · rw [enc31] at h
      by_cases hC : CST rd rn rm ra imm shift cond
      · rw [if_pos hC] at h
        simp only [Option.some.injEq, Prod.mk.injEq, VST] at h
        simp only [CST] at hC
        omega
      · rw [if_neg hC] at h
        simp only [Option.some.injEq, Prod.mk.injEq] at h
        omega
/-- Encode, of whatever op: nothing, or one word. -/
theorem enc_tot (op rd rn rm ra imm shift cond : Int) : encode_Encode.f op rd rn rm ra imm shift cond = some (0, 120) ∨ ∃ W, encode_Encode.f op rd rn rm ra imm shift cond = some (W, 0) := by
  by_cases h0 : op < 1 ∨ 31 < op
  · exact .inl (enc_none _ _ _ _ _ _ _ _ h0)
  · have hc : op = 1 ∨ op = 2 ∨ op = 3 ∨ op = 4 ∨ op = 5 ∨ op = 6 ∨ op = 7 ∨ op = 8 ∨ op = 9 ∨ op = 10 ∨ op = 11 ∨ op = 12 ∨ op = 13 ∨ op = 14 ∨ op = 15 ∨ op = 16 ∨ op = 17 ∨ op = 18 ∨ op = 19 ∨ op = 20 ∨ op = 21 ∨ op = 22 ∨ op = 23 ∨ op = 24 ∨ op = 25 ∨ op = 26 ∨ op = 27 ∨ op = 28 ∨ op = 29 ∨ op = 30 ∨ op = 31 := by omega
    rcases hc with rfl | rfl | rfl | rfl | rfl | rfl | rfl | rfl | rfl | rfl | rfl | rfl | rfl | rfl | rfl | rfl | rfl | rfl | rfl | rfl | rfl | rfl | rfl | rfl | rfl | rfl | rfl | rfl | rfl | rfl | rfl
    · by_cases h : CR3 rd rn rm ra imm shift cond
      · exact .inr ⟨_, by rw [enc1, if_pos h]⟩
      · exact .inl (by rw [enc1, if_neg h])
    · by_cases h : CR3 rd rn rm ra imm shift cond
      · exact .inr ⟨_, by rw [enc2, if_pos h]⟩
      · exact .inl (by rw [enc2, if_neg h])
    · by_cases h : CR3 rd rn rm ra imm shift cond
      · exact .inr ⟨_, by rw [enc3, if_pos h]⟩
      · exact .inl (by rw [enc3, if_neg h])
    · by_cases h : CRI rd rn rm ra imm shift cond
      · exact .inr ⟨_, by rw [enc4, if_pos h]⟩
      · exact .inl (by rw [enc4, if_neg h])
    · by_cases h : CRI rd rn rm ra imm shift cond
      · exact .inr ⟨_, by rw [enc5, if_pos h]⟩
      · exact .inl (by rw [enc5, if_neg h])
    · by_cases h : CRI rd rn rm ra imm shift cond
      · exact .inr ⟨_, by rw [enc6, if_pos h]⟩
      · exact .inl (by rw [enc6, if_neg h])
    · by_cases h : CR3 rd rn rm ra imm shift cond
      · exact .inr ⟨_, by rw [enc7, if_pos h]⟩
      · exact .inl (by rw [enc7, if_neg h])
    · by_cases h : CR3 rd rn rm ra imm shift cond
      · exact .inr ⟨_, by rw [enc8, if_pos h]⟩
      · exact .inl (by rw [enc8, if_neg h])
    · by_cases h : CR3 rd rn rm ra imm shift cond
      · exact .inr ⟨_, by rw [enc9, if_pos h]⟩
      · exact .inl (by rw [enc9, if_neg h])
    · by_cases h : CR3 rd rn rm ra imm shift cond
      · exact .inr ⟨_, by rw [enc10, if_pos h]⟩
      · exact .inl (by rw [enc10, if_neg h])
    · by_cases h : CR4 rd rn rm ra imm shift cond
      · exact .inr ⟨_, by rw [enc11, if_pos h]⟩
      · exact .inl (by rw [enc11, if_neg h])
    · by_cases h : CR4 rd rn rm ra imm shift cond
      · exact .inr ⟨_, by rw [enc12, if_pos h]⟩
      · exact .inl (by rw [enc12, if_neg h])
    · by_cases h : CR3 rd rn rm ra imm shift cond
      · exact .inr ⟨_, by rw [enc13, if_pos h]⟩
      · exact .inl (by rw [enc13, if_neg h])
    · by_cases h : CR3 rd rn rm ra imm shift cond
      · exact .inr ⟨_, by rw [enc14, if_pos h]⟩
      · exact .inl (by rw [enc14, if_neg h])
    · by_cases h : CR3 rd rn rm ra imm shift cond
      · exact .inr ⟨_, by rw [enc15, if_pos h]⟩
      · exact .inl (by rw [enc15, if_neg h])
    · by_cases h : CMV rd rn rm ra imm shift cond
      · exact .inr ⟨_, by rw [enc16, if_pos h]⟩
      · exact .inl (by rw [enc16, if_neg h])
    · by_cases h : CMV rd rn rm ra imm shift cond
      · exact .inr ⟨_, by rw [enc17, if_pos h]⟩
      · exact .inl (by rw [enc17, if_neg h])
    · by_cases h : CMV rd rn rm ra imm shift cond
      · exact .inr ⟨_, by rw [enc18, if_pos h]⟩
      · exact .inl (by rw [enc18, if_neg h])
    · by_cases h : CRI rd rn rm ra imm shift cond
      · exact .inr ⟨_, by rw [enc19, if_pos h]⟩
      · exact .inl (by rw [enc19, if_neg h])
    · by_cases h : CRI rd rn rm ra imm shift cond
      · exact .inr ⟨_, by rw [enc20, if_pos h]⟩
      · exact .inl (by rw [enc20, if_neg h])
    · by_cases h : CCS rd rn rm ra imm shift cond
      · exact .inr ⟨_, by rw [enc21, if_pos h]⟩
      · exact .inl (by rw [enc21, if_neg h])
    · by_cases h : CCS rd rn rm ra imm shift cond
      · exact .inr ⟨_, by rw [enc22, if_pos h]⟩
      · exact .inl (by rw [enc22, if_neg h])
    · by_cases h : CBR rd rn rm ra imm shift cond
      · exact .inr ⟨_, by rw [enc23, if_pos h]⟩
      · exact .inl (by rw [enc23, if_neg h])
    · by_cases h : CBR rd rn rm ra imm shift cond
      · exact .inr ⟨_, by rw [enc24, if_pos h]⟩
      · exact .inl (by rw [enc24, if_neg h])
    · by_cases h : CWH rd rn rm ra imm shift cond
      · exact .inr ⟨_, by rw [enc25, if_pos h]⟩
      · exact .inl (by rw [enc25, if_neg h])
    · by_cases h : CZR rd rn rm ra imm shift cond
      · exact .inr ⟨_, by rw [enc26, if_pos h]⟩
      · exact .inl (by rw [enc26, if_neg h])
    · by_cases h : CZR rd rn rm ra imm shift cond
      · exact .inr ⟨_, by rw [enc27, if_pos h]⟩
      · exact .inl (by rw [enc27, if_neg h])
    · by_cases h : CRT rd rn rm ra imm shift cond
      · exact .inr ⟨_, by rw [enc28, if_pos h]⟩
      · exact .inl (by rw [enc28, if_neg h])
    · by_cases h : CSV rd rn rm ra imm shift cond
      · exact .inr ⟨_, by rw [enc29, if_pos h]⟩
      · exact .inl (by rw [enc29, if_neg h])
    · by_cases h : CSV rd rn rm ra imm shift cond
      · exact .inr ⟨_, by rw [enc30, if_pos h]⟩
      · exact .inl (by rw [enc30, if_neg h])
    · by_cases h : CST rd rn rm ra imm shift cond
      · exact .inr ⟨_, by rw [enc31, if_pos h]⟩
      · exact .inl (by rw [enc31, if_neg h])
end Go.Proofs.Ytndedmkjmahohaa.A64
