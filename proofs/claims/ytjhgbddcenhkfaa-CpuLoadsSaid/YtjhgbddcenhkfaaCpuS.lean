/- What a word was made of: plain arithmetic; no statement of the seat. What was encoded is decoded to the same: plain arithmetic; no statement of the seat. Printed in part by gen_cpus.py. -/
import Derived.Test.YtjhgbddcenhkfaaCpuI
set_option linter.unusedVariables false
set_option linter.unusedSimpArgs false
namespace Go.Proofs.Ytjhgbddcenhkfaa.A64
open Go.RowKit Go.Proofs.Ytjhgbddcenhkfaa.P Go.Proofs.YtjhgbddcenhkfaaW.PrintWords Go.Proofs.YtjhgbddcenhkfaaW.PrintLast Go.Proofs.YtjhgbddcenhkfaaW.PrintMore
def sgn (n h : Int) : Int := if n ≥ h then n - 2 * h else n
/-- What a word was made of. -/
def opOf (W : Int) : Int :=
  if W / 67108864 = 5 then 23 else if W / 67108864 = 37 then 24 else
  if W / 16777216 = 139 then (1) else
  if W / 16777216 = 203 then (2) else
  if W / 16777216 = 235 then (3) else
  if W / 16777216 = 145 then (4) else
  if W / 16777216 = 209 then (5) else
  if W / 16777216 = 241 then (6) else
  if W / 16777216 = 138 then (7) else
  if W / 16777216 = 170 then (if W / 2097152 % 2 = 1 then 10 else 8) else
  if W / 16777216 = 202 then (9) else
  if W / 16777216 = 155 then (if W / 32768 % 2 = 1 then 12 else 11) else
  if W / 16777216 = 154 then (if W / 4194304 % 2 = 1 then (if W / 1024 % 64 = 3 then 13 else if W / 1024 % 64 = 8 then 14 else 15) else if W / 1024 % 2 = 1 then 22 else 21) else
  if W / 16777216 = 210 then (16) else
  if W / 16777216 = 242 then (17) else
  if W / 16777216 = 146 then (18) else
  if W / 16777216 = 249 then (if W / 4194304 % 2 = 1 then 19 else 20) else
  if W / 16777216 = 84 then (25) else
  if W / 16777216 = 180 then (26) else
  if W / 16777216 = 181 then (27) else
  if W / 16777216 = 214 then (28) else
  if W / 16777216 = 212 then (if W % 2 = 1 then 29 else 30) else
  if W / 16777216 = 213 then (31) else
  0
def decOp (k W : Int) : S61 :=
  if k = 4 ∨ k = 5 ∨ k = 6 ∨ k = 19 ∨ k = 20 then ⟨k, W % 32, W / 32 % 32, 0, 0, W / 1024 % 4096, 0, 0⟩ else
  if k = 11 ∨ k = 12 then ⟨k, W % 32, W / 32 % 32, W / 65536 % 32, W / 1024 % 32, 0, 0, 0⟩ else
  if k = 16 ∨ k = 17 ∨ k = 18 then ⟨k, W % 32, 0, 0, 0, W / 32 % 65536, W / 2097152 % 4, 0⟩ else
  if k = 21 ∨ k = 22 then ⟨k, W % 32, W / 32 % 32, W / 65536 % 32, 0, 0, 0, W / 4096 % 16⟩ else
  if k = 23 ∨ k = 24 then ⟨k, 0, 0, 0, 0, sgn (W % 67108864) 33554432, 0, 0⟩ else
  if k = 25 then ⟨k, 0, 0, 0, 0, sgn (W / 32 % 524288) 262144, 0, W % 16⟩ else
  if k = 26 ∨ k = 27 then ⟨k, W % 32, 0, 0, 0, sgn (W / 32 % 524288) 262144, 0, 0⟩ else
  if k = 28 then ⟨k, 0, W / 32 % 32, 0, 0, 0, 0, 0⟩ else
  if k = 29 ∨ k = 30 then ⟨k, 0, 0, 0, 0, W / 32 % 65536, 0, 0⟩ else
  if k = 31 then ⟨k, 0, 0, 0, 0, 0, 0, 0⟩ else
  ⟨k, W % 32, W / 32 % 32, W / 65536 % 32, 0, 0, 0, 0⟩
def dec (W : Int) : S61 := decOp (opOf W) W
theorem opOf1 (rd rn rm ra imm shift cond : Int) (h : CR3 rd rn rm ra imm shift cond) : opOf (VR3 2332033024 rd rn rm ra imm shift cond) = 1 := by
  obtain ⟨W, hW⟩ : ∃ W, W = VR3 2332033024 rd rn rm ra imm shift cond := ⟨_, rfl⟩
  rw [← hW]
  simp only [CR3] at h
  simp only [VR3] at hW
  have n1 : ¬ W / 67108864 = 5 := by omega
  have n2 : ¬ W / 67108864 = 37 := by omega
  have e0 : W / 16777216 = 139 := by omega
  unfold opOf
  rw [if_neg n1, if_neg n2]
  simp [e0]
theorem dec1 (rd rn rm ra imm shift cond : Int) (h : CR3 rd rn rm ra imm shift cond) : dec (VR3 2332033024 rd rn rm ra imm shift cond) = (⟨1, rd, rn, rm, ra, imm, shift, cond⟩ : S61) := by
  unfold dec
  rw [opOf1 _ _ _ _ _ _ _ h]
  obtain ⟨W, hW⟩ : ∃ W, W = VR3 2332033024 rd rn rm ra imm shift cond := ⟨_, rfl⟩
  rw [← hW]
  simp only [CR3] at h
  simp only [VR3] at hW
  unfold decOp
  rw [if_neg (by decide)]
  rw [if_neg (by decide)]
  rw [if_neg (by decide)]
  rw [if_neg (by decide)]
  rw [if_neg (by decide)]
  rw [if_neg (by decide)]
  rw [if_neg (by decide)]
  rw [if_neg (by decide)]
  rw [if_neg (by decide)]
  rw [if_neg (by decide)]
  simp only [S61.mk.injEq]
  skip
  refine ⟨trivial, ?_, ?_, ?_, ?_, ?_, ?_, ?_⟩ <;> first | omega | (split <;> omega)
theorem opOf2 (rd rn rm ra imm shift cond : Int) (h : CR3 rd rn rm ra imm shift cond) : opOf (VR3 3405774848 rd rn rm ra imm shift cond) = 2 := by
  obtain ⟨W, hW⟩ : ∃ W, W = VR3 3405774848 rd rn rm ra imm shift cond := ⟨_, rfl⟩
  rw [← hW]
  simp only [CR3] at h
  simp only [VR3] at hW
  have n1 : ¬ W / 67108864 = 5 := by omega
  have n2 : ¬ W / 67108864 = 37 := by omega
  have e0 : W / 16777216 = 203 := by omega
  unfold opOf
  rw [if_neg n1, if_neg n2]
  simp [e0]
theorem dec2 (rd rn rm ra imm shift cond : Int) (h : CR3 rd rn rm ra imm shift cond) : dec (VR3 3405774848 rd rn rm ra imm shift cond) = (⟨2, rd, rn, rm, ra, imm, shift, cond⟩ : S61) := by
  unfold dec
  rw [opOf2 _ _ _ _ _ _ _ h]
  obtain ⟨W, hW⟩ : ∃ W, W = VR3 3405774848 rd rn rm ra imm shift cond := ⟨_, rfl⟩
  rw [← hW]
  simp only [CR3] at h
  simp only [VR3] at hW
  unfold decOp
  rw [if_neg (by decide)]
  rw [if_neg (by decide)]
  rw [if_neg (by decide)]
  rw [if_neg (by decide)]
  rw [if_neg (by decide)]
  rw [if_neg (by decide)]
  rw [if_neg (by decide)]
  rw [if_neg (by decide)]
  rw [if_neg (by decide)]
  rw [if_neg (by decide)]
  simp only [S61.mk.injEq]
  skip
  refine ⟨trivial, ?_, ?_, ?_, ?_, ?_, ?_, ?_⟩ <;> first | omega | (split <;> omega)
theorem opOf3 (rd rn rm ra imm shift cond : Int) (h : CR3 rd rn rm ra imm shift cond) : opOf (VR3 3942645760 rd rn rm ra imm shift cond) = 3 := by
  obtain ⟨W, hW⟩ : ∃ W, W = VR3 3942645760 rd rn rm ra imm shift cond := ⟨_, rfl⟩
  rw [← hW]
  simp only [CR3] at h
  simp only [VR3] at hW
  have n1 : ¬ W / 67108864 = 5 := by omega
  have n2 : ¬ W / 67108864 = 37 := by omega
  have e0 : W / 16777216 = 235 := by omega
  unfold opOf
  rw [if_neg n1, if_neg n2]
  simp [e0]
theorem dec3 (rd rn rm ra imm shift cond : Int) (h : CR3 rd rn rm ra imm shift cond) : dec (VR3 3942645760 rd rn rm ra imm shift cond) = (⟨3, rd, rn, rm, ra, imm, shift, cond⟩ : S61) := by
  unfold dec
  rw [opOf3 _ _ _ _ _ _ _ h]
  obtain ⟨W, hW⟩ : ∃ W, W = VR3 3942645760 rd rn rm ra imm shift cond := ⟨_, rfl⟩
  rw [← hW]
  simp only [CR3] at h
  simp only [VR3] at hW
  unfold decOp
  rw [if_neg (by decide)]
  rw [if_neg (by decide)]
  rw [if_neg (by decide)]
  rw [if_neg (by decide)]
  rw [if_neg (by decide)]
  rw [if_neg (by decide)]
  rw [if_neg (by decide)]
  rw [if_neg (by decide)]
  rw [if_neg (by decide)]
  rw [if_neg (by decide)]
  simp only [S61.mk.injEq]
  skip
  refine ⟨trivial, ?_, ?_, ?_, ?_, ?_, ?_, ?_⟩ <;> first | omega | (split <;> omega)
theorem opOf4 (rd rn rm ra imm shift cond : Int) (h : CRI rd rn rm ra imm shift cond) : opOf (VRI 2432696320 rd rn rm ra imm shift cond) = 4 := by
  obtain ⟨W, hW⟩ : ∃ W, W = VRI 2432696320 rd rn rm ra imm shift cond := ⟨_, rfl⟩
  rw [← hW]
  simp only [CRI] at h
  simp only [VRI] at hW
  have n1 : ¬ W / 67108864 = 5 := by omega
  have n2 : ¬ W / 67108864 = 37 := by omega
  have e0 : W / 16777216 = 145 := by omega
  unfold opOf
  rw [if_neg n1, if_neg n2]
  simp [e0]
theorem dec4 (rd rn rm ra imm shift cond : Int) (h : CRI rd rn rm ra imm shift cond) : dec (VRI 2432696320 rd rn rm ra imm shift cond) = (⟨4, rd, rn, rm, ra, imm, shift, cond⟩ : S61) := by
  unfold dec
  rw [opOf4 _ _ _ _ _ _ _ h]
  obtain ⟨W, hW⟩ : ∃ W, W = VRI 2432696320 rd rn rm ra imm shift cond := ⟨_, rfl⟩
  rw [← hW]
  simp only [CRI] at h
  simp only [VRI] at hW
  unfold decOp
  rw [if_pos (by decide)]
  simp only [S61.mk.injEq]
  skip
  refine ⟨trivial, ?_, ?_, ?_, ?_, ?_, ?_, ?_⟩ <;> first | omega | (split <;> omega)
theorem opOf5 (rd rn rm ra imm shift cond : Int) (h : CRI rd rn rm ra imm shift cond) : opOf (VRI 3506438144 rd rn rm ra imm shift cond) = 5 := by
  obtain ⟨W, hW⟩ : ∃ W, W = VRI 3506438144 rd rn rm ra imm shift cond := ⟨_, rfl⟩
  rw [← hW]
  simp only [CRI] at h
  simp only [VRI] at hW
  have n1 : ¬ W / 67108864 = 5 := by omega
  have n2 : ¬ W / 67108864 = 37 := by omega
  have e0 : W / 16777216 = 209 := by omega
  unfold opOf
  rw [if_neg n1, if_neg n2]
  simp [e0]
theorem dec5 (rd rn rm ra imm shift cond : Int) (h : CRI rd rn rm ra imm shift cond) : dec (VRI 3506438144 rd rn rm ra imm shift cond) = (⟨5, rd, rn, rm, ra, imm, shift, cond⟩ : S61) := by
  unfold dec
  rw [opOf5 _ _ _ _ _ _ _ h]
  obtain ⟨W, hW⟩ : ∃ W, W = VRI 3506438144 rd rn rm ra imm shift cond := ⟨_, rfl⟩
  rw [← hW]
  simp only [CRI] at h
  simp only [VRI] at hW
  unfold decOp
  rw [if_pos (by decide)]
  simp only [S61.mk.injEq]
  skip
  refine ⟨trivial, ?_, ?_, ?_, ?_, ?_, ?_, ?_⟩ <;> first | omega | (split <;> omega)
theorem opOf6 (rd rn rm ra imm shift cond : Int) (h : CRI rd rn rm ra imm shift cond) : opOf (VRI 4043309056 rd rn rm ra imm shift cond) = 6 := by
  obtain ⟨W, hW⟩ : ∃ W, W = VRI 4043309056 rd rn rm ra imm shift cond := ⟨_, rfl⟩
  rw [← hW]
  simp only [CRI] at h
  simp only [VRI] at hW
  have n1 : ¬ W / 67108864 = 5 := by omega
  have n2 : ¬ W / 67108864 = 37 := by omega
  have e0 : W / 16777216 = 241 := by omega
  unfold opOf
  rw [if_neg n1, if_neg n2]
  simp [e0]
theorem dec6 (rd rn rm ra imm shift cond : Int) (h : CRI rd rn rm ra imm shift cond) : dec (VRI 4043309056 rd rn rm ra imm shift cond) = (⟨6, rd, rn, rm, ra, imm, shift, cond⟩ : S61) := by
  unfold dec
  rw [opOf6 _ _ _ _ _ _ _ h]
  obtain ⟨W, hW⟩ : ∃ W, W = VRI 4043309056 rd rn rm ra imm shift cond := ⟨_, rfl⟩
  rw [← hW]
  simp only [CRI] at h
  simp only [VRI] at hW
  unfold decOp
  rw [if_pos (by decide)]
  simp only [S61.mk.injEq]
  skip
  refine ⟨trivial, ?_, ?_, ?_, ?_, ?_, ?_, ?_⟩ <;> first | omega | (split <;> omega)
theorem opOf7 (rd rn rm ra imm shift cond : Int) (h : CR3 rd rn rm ra imm shift cond) : opOf (VR3 2315255808 rd rn rm ra imm shift cond) = 7 := by
  obtain ⟨W, hW⟩ : ∃ W, W = VR3 2315255808 rd rn rm ra imm shift cond := ⟨_, rfl⟩
  rw [← hW]
  simp only [CR3] at h
  simp only [VR3] at hW
  have n1 : ¬ W / 67108864 = 5 := by omega
  have n2 : ¬ W / 67108864 = 37 := by omega
  have e0 : W / 16777216 = 138 := by omega
  unfold opOf
  rw [if_neg n1, if_neg n2]
  simp [e0]
theorem dec7 (rd rn rm ra imm shift cond : Int) (h : CR3 rd rn rm ra imm shift cond) : dec (VR3 2315255808 rd rn rm ra imm shift cond) = (⟨7, rd, rn, rm, ra, imm, shift, cond⟩ : S61) := by
  unfold dec
  rw [opOf7 _ _ _ _ _ _ _ h]
  obtain ⟨W, hW⟩ : ∃ W, W = VR3 2315255808 rd rn rm ra imm shift cond := ⟨_, rfl⟩
  rw [← hW]
  simp only [CR3] at h
  simp only [VR3] at hW
  unfold decOp
  rw [if_neg (by decide)]
  rw [if_neg (by decide)]
  rw [if_neg (by decide)]
  rw [if_neg (by decide)]
  rw [if_neg (by decide)]
  rw [if_neg (by decide)]
  rw [if_neg (by decide)]
  rw [if_neg (by decide)]
  rw [if_neg (by decide)]
  rw [if_neg (by decide)]
  simp only [S61.mk.injEq]
  skip
  refine ⟨trivial, ?_, ?_, ?_, ?_, ?_, ?_, ?_⟩ <;> first | omega | (split <;> omega)
theorem opOf8 (rd rn rm ra imm shift cond : Int) (h : CR3 rd rn rm ra imm shift cond) : opOf (VR3 2852126720 rd rn rm ra imm shift cond) = 8 := by
  obtain ⟨W, hW⟩ : ∃ W, W = VR3 2852126720 rd rn rm ra imm shift cond := ⟨_, rfl⟩
  rw [← hW]
  simp only [CR3] at h
  simp only [VR3] at hW
  have n1 : ¬ W / 67108864 = 5 := by omega
  have n2 : ¬ W / 67108864 = 37 := by omega
  have e0 : W / 16777216 = 170 := by omega
  have e1 : W / 2097152 % 2 = 0 := by omega
  unfold opOf
  rw [if_neg n1, if_neg n2]
  simp [e0, e1]
theorem dec8 (rd rn rm ra imm shift cond : Int) (h : CR3 rd rn rm ra imm shift cond) : dec (VR3 2852126720 rd rn rm ra imm shift cond) = (⟨8, rd, rn, rm, ra, imm, shift, cond⟩ : S61) := by
  unfold dec
  rw [opOf8 _ _ _ _ _ _ _ h]
  obtain ⟨W, hW⟩ : ∃ W, W = VR3 2852126720 rd rn rm ra imm shift cond := ⟨_, rfl⟩
  rw [← hW]
  simp only [CR3] at h
  simp only [VR3] at hW
  unfold decOp
  rw [if_neg (by decide)]
  rw [if_neg (by decide)]
  rw [if_neg (by decide)]
  rw [if_neg (by decide)]
  rw [if_neg (by decide)]
  rw [if_neg (by decide)]
  rw [if_neg (by decide)]
  rw [if_neg (by decide)]
  rw [if_neg (by decide)]
  rw [if_neg (by decide)]
  simp only [S61.mk.injEq]
  skip
  refine ⟨trivial, ?_, ?_, ?_, ?_, ?_, ?_, ?_⟩ <;> first | omega | (split <;> omega)
theorem opOf9 (rd rn rm ra imm shift cond : Int) (h : CR3 rd rn rm ra imm shift cond) : opOf (VR3 3388997632 rd rn rm ra imm shift cond) = 9 := by
  obtain ⟨W, hW⟩ : ∃ W, W = VR3 3388997632 rd rn rm ra imm shift cond := ⟨_, rfl⟩
  rw [← hW]
  simp only [CR3] at h
  simp only [VR3] at hW
  have n1 : ¬ W / 67108864 = 5 := by omega
  have n2 : ¬ W / 67108864 = 37 := by omega
  have e0 : W / 16777216 = 202 := by omega
  unfold opOf
  rw [if_neg n1, if_neg n2]
  simp [e0]
theorem dec9 (rd rn rm ra imm shift cond : Int) (h : CR3 rd rn rm ra imm shift cond) : dec (VR3 3388997632 rd rn rm ra imm shift cond) = (⟨9, rd, rn, rm, ra, imm, shift, cond⟩ : S61) := by
  unfold dec
  rw [opOf9 _ _ _ _ _ _ _ h]
  obtain ⟨W, hW⟩ : ∃ W, W = VR3 3388997632 rd rn rm ra imm shift cond := ⟨_, rfl⟩
  rw [← hW]
  simp only [CR3] at h
  simp only [VR3] at hW
  unfold decOp
  rw [if_neg (by decide)]
  rw [if_neg (by decide)]
  rw [if_neg (by decide)]
  rw [if_neg (by decide)]
  rw [if_neg (by decide)]
  rw [if_neg (by decide)]
  rw [if_neg (by decide)]
  rw [if_neg (by decide)]
  rw [if_neg (by decide)]
  rw [if_neg (by decide)]
  simp only [S61.mk.injEq]
  skip
  refine ⟨trivial, ?_, ?_, ?_, ?_, ?_, ?_, ?_⟩ <;> first | omega | (split <;> omega)
theorem opOf10 (rd rn rm ra imm shift cond : Int) (h : CR3 rd rn rm ra imm shift cond) : opOf (VR3 2854223872 rd rn rm ra imm shift cond) = 10 := by
  obtain ⟨W, hW⟩ : ∃ W, W = VR3 2854223872 rd rn rm ra imm shift cond := ⟨_, rfl⟩
  rw [← hW]
  simp only [CR3] at h
  simp only [VR3] at hW
  have n1 : ¬ W / 67108864 = 5 := by omega
  have n2 : ¬ W / 67108864 = 37 := by omega
  have e0 : W / 16777216 = 170 := by omega
  have e1 : W / 2097152 % 2 = 1 := by omega
  unfold opOf
  rw [if_neg n1, if_neg n2]
  simp [e0, e1]
theorem dec10 (rd rn rm ra imm shift cond : Int) (h : CR3 rd rn rm ra imm shift cond) : dec (VR3 2854223872 rd rn rm ra imm shift cond) = (⟨10, rd, rn, rm, ra, imm, shift, cond⟩ : S61) := by
  unfold dec
  rw [opOf10 _ _ _ _ _ _ _ h]
  obtain ⟨W, hW⟩ : ∃ W, W = VR3 2854223872 rd rn rm ra imm shift cond := ⟨_, rfl⟩
  rw [← hW]
  simp only [CR3] at h
  simp only [VR3] at hW
  unfold decOp
  rw [if_neg (by decide)]
  rw [if_neg (by decide)]
  rw [if_neg (by decide)]
  rw [if_neg (by decide)]
  rw [if_neg (by decide)]
  rw [if_neg (by decide)]
  rw [if_neg (by decide)]
  rw [if_neg (by decide)]
  rw [if_neg (by decide)]
  rw [if_neg (by decide)]
  simp only [S61.mk.injEq]
  skip
  refine ⟨trivial, ?_, ?_, ?_, ?_, ?_, ?_, ?_⟩ <;> first | omega | (split <;> omega)
theorem opOf11 (rd rn rm ra imm shift cond : Int) (h : CR4 rd rn rm ra imm shift cond) : opOf (VR4 2600468480 rd rn rm ra imm shift cond) = 11 := by
  obtain ⟨W, hW⟩ : ∃ W, W = VR4 2600468480 rd rn rm ra imm shift cond := ⟨_, rfl⟩
  rw [← hW]
  simp only [CR4] at h
  simp only [VR4] at hW
  have n1 : ¬ W / 67108864 = 5 := by omega
  have n2 : ¬ W / 67108864 = 37 := by omega
  have e0 : W / 16777216 = 155 := by omega
  have e1 : W / 32768 % 2 = 0 := by omega
  unfold opOf
  rw [if_neg n1, if_neg n2]
  simp [e0, e1]
theorem dec11 (rd rn rm ra imm shift cond : Int) (h : CR4 rd rn rm ra imm shift cond) : dec (VR4 2600468480 rd rn rm ra imm shift cond) = (⟨11, rd, rn, rm, ra, imm, shift, cond⟩ : S61) := by
  unfold dec
  rw [opOf11 _ _ _ _ _ _ _ h]
  obtain ⟨W, hW⟩ : ∃ W, W = VR4 2600468480 rd rn rm ra imm shift cond := ⟨_, rfl⟩
  rw [← hW]
  simp only [CR4] at h
  simp only [VR4] at hW
  unfold decOp
  rw [if_neg (by decide)]
  rw [if_pos (by decide)]
  simp only [S61.mk.injEq]
  skip
  refine ⟨trivial, ?_, ?_, ?_, ?_, ?_, ?_, ?_⟩ <;> first | omega | (split <;> omega)
theorem opOf12 (rd rn rm ra imm shift cond : Int) (h : CR4 rd rn rm ra imm shift cond) : opOf (VR4 2600501248 rd rn rm ra imm shift cond) = 12 := by
  obtain ⟨W, hW⟩ : ∃ W, W = VR4 2600501248 rd rn rm ra imm shift cond := ⟨_, rfl⟩
  rw [← hW]
  simp only [CR4] at h
  simp only [VR4] at hW
  have n1 : ¬ W / 67108864 = 5 := by omega
  have n2 : ¬ W / 67108864 = 37 := by omega
  have e0 : W / 16777216 = 155 := by omega
  have e1 : W / 32768 % 2 = 1 := by omega
  unfold opOf
  rw [if_neg n1, if_neg n2]
  simp [e0, e1]
theorem dec12 (rd rn rm ra imm shift cond : Int) (h : CR4 rd rn rm ra imm shift cond) : dec (VR4 2600501248 rd rn rm ra imm shift cond) = (⟨12, rd, rn, rm, ra, imm, shift, cond⟩ : S61) := by
  unfold dec
  rw [opOf12 _ _ _ _ _ _ _ h]
  obtain ⟨W, hW⟩ : ∃ W, W = VR4 2600501248 rd rn rm ra imm shift cond := ⟨_, rfl⟩
  rw [← hW]
  simp only [CR4] at h
  simp only [VR4] at hW
  unfold decOp
  rw [if_neg (by decide)]
  rw [if_pos (by decide)]
  simp only [S61.mk.injEq]
  skip
  refine ⟨trivial, ?_, ?_, ?_, ?_, ?_, ?_, ?_⟩ <;> first | omega | (split <;> omega)
theorem opOf13 (rd rn rm ra imm shift cond : Int) (h : CR3 rd rn rm ra imm shift cond) : opOf (VR3 2596277248 rd rn rm ra imm shift cond) = 13 := by
  obtain ⟨W, hW⟩ : ∃ W, W = VR3 2596277248 rd rn rm ra imm shift cond := ⟨_, rfl⟩
  rw [← hW]
  simp only [CR3] at h
  simp only [VR3] at hW
  have n1 : ¬ W / 67108864 = 5 := by omega
  have n2 : ¬ W / 67108864 = 37 := by omega
  have e0 : W / 16777216 = 154 := by omega
  have e1 : W / 4194304 % 2 = 1 := by omega
  have e2 : W / 1024 % 64 = 3 := by omega
  have e3 : W / 1024 % 2 = 1 := by omega
  unfold opOf
  rw [if_neg n1, if_neg n2]
  simp [e0, e1, e2, e3]
theorem dec13 (rd rn rm ra imm shift cond : Int) (h : CR3 rd rn rm ra imm shift cond) : dec (VR3 2596277248 rd rn rm ra imm shift cond) = (⟨13, rd, rn, rm, ra, imm, shift, cond⟩ : S61) := by
  unfold dec
  rw [opOf13 _ _ _ _ _ _ _ h]
  obtain ⟨W, hW⟩ : ∃ W, W = VR3 2596277248 rd rn rm ra imm shift cond := ⟨_, rfl⟩
  rw [← hW]
  simp only [CR3] at h
  simp only [VR3] at hW
  unfold decOp
  rw [if_neg (by decide)]
  rw [if_neg (by decide)]
  rw [if_neg (by decide)]
  rw [if_neg (by decide)]
  rw [if_neg (by decide)]
  rw [if_neg (by decide)]
  rw [if_neg (by decide)]
  rw [if_neg (by decide)]
  rw [if_neg (by decide)]
  rw [if_neg (by decide)]
  simp only [S61.mk.injEq]
  skip
  refine ⟨trivial, ?_, ?_, ?_, ?_, ?_, ?_, ?_⟩ <;> first | omega | (split <;> omega)
theorem opOf14 (rd rn rm ra imm shift cond : Int) (h : CR3 rd rn rm ra imm shift cond) : opOf (VR3 2596282368 rd rn rm ra imm shift cond) = 14 := by
  obtain ⟨W, hW⟩ : ∃ W, W = VR3 2596282368 rd rn rm ra imm shift cond := ⟨_, rfl⟩
  rw [← hW]
  simp only [CR3] at h
  simp only [VR3] at hW
  have n1 : ¬ W / 67108864 = 5 := by omega
  have n2 : ¬ W / 67108864 = 37 := by omega
  have e0 : W / 16777216 = 154 := by omega
  have e1 : W / 4194304 % 2 = 1 := by omega
  have e2 : W / 1024 % 64 = 8 := by omega
  have e3 : W / 1024 % 2 = 0 := by omega
  unfold opOf
  rw [if_neg n1, if_neg n2]
  simp [e0, e1, e2, e3]
theorem dec14 (rd rn rm ra imm shift cond : Int) (h : CR3 rd rn rm ra imm shift cond) : dec (VR3 2596282368 rd rn rm ra imm shift cond) = (⟨14, rd, rn, rm, ra, imm, shift, cond⟩ : S61) := by
  unfold dec
  rw [opOf14 _ _ _ _ _ _ _ h]
  obtain ⟨W, hW⟩ : ∃ W, W = VR3 2596282368 rd rn rm ra imm shift cond := ⟨_, rfl⟩
  rw [← hW]
  simp only [CR3] at h
  simp only [VR3] at hW
  unfold decOp
  rw [if_neg (by decide)]
  rw [if_neg (by decide)]
  rw [if_neg (by decide)]
  rw [if_neg (by decide)]
  rw [if_neg (by decide)]
  rw [if_neg (by decide)]
  rw [if_neg (by decide)]
  rw [if_neg (by decide)]
  rw [if_neg (by decide)]
  rw [if_neg (by decide)]
  simp only [S61.mk.injEq]
  skip
  refine ⟨trivial, ?_, ?_, ?_, ?_, ?_, ?_, ?_⟩ <;> first | omega | (split <;> omega)
theorem opOf15 (rd rn rm ra imm shift cond : Int) (h : CR3 rd rn rm ra imm shift cond) : opOf (VR3 2596284416 rd rn rm ra imm shift cond) = 15 := by
  obtain ⟨W, hW⟩ : ∃ W, W = VR3 2596284416 rd rn rm ra imm shift cond := ⟨_, rfl⟩
  rw [← hW]
  simp only [CR3] at h
  simp only [VR3] at hW
  have n1 : ¬ W / 67108864 = 5 := by omega
  have n2 : ¬ W / 67108864 = 37 := by omega
  have e0 : W / 16777216 = 154 := by omega
  have e1 : W / 4194304 % 2 = 1 := by omega
  have e2 : W / 1024 % 64 = 10 := by omega
  have e3 : W / 1024 % 2 = 0 := by omega
  unfold opOf
  rw [if_neg n1, if_neg n2]
  simp [e0, e1, e2, e3]
theorem dec15 (rd rn rm ra imm shift cond : Int) (h : CR3 rd rn rm ra imm shift cond) : dec (VR3 2596284416 rd rn rm ra imm shift cond) = (⟨15, rd, rn, rm, ra, imm, shift, cond⟩ : S61) := by
  unfold dec
  rw [opOf15 _ _ _ _ _ _ _ h]
  obtain ⟨W, hW⟩ : ∃ W, W = VR3 2596284416 rd rn rm ra imm shift cond := ⟨_, rfl⟩
  rw [← hW]
  simp only [CR3] at h
  simp only [VR3] at hW
  unfold decOp
  rw [if_neg (by decide)]
  rw [if_neg (by decide)]
  rw [if_neg (by decide)]
  rw [if_neg (by decide)]
  rw [if_neg (by decide)]
  rw [if_neg (by decide)]
  rw [if_neg (by decide)]
  rw [if_neg (by decide)]
  rw [if_neg (by decide)]
  rw [if_neg (by decide)]
  simp only [S61.mk.injEq]
  skip
  refine ⟨trivial, ?_, ?_, ?_, ?_, ?_, ?_, ?_⟩ <;> first | omega | (split <;> omega)
theorem opOf16 (rd rn rm ra imm shift cond : Int) (h : CMV rd rn rm ra imm shift cond) : opOf (VMV 3531603968 rd rn rm ra imm shift cond) = 16 := by
  obtain ⟨W, hW⟩ : ∃ W, W = VMV 3531603968 rd rn rm ra imm shift cond := ⟨_, rfl⟩
  rw [← hW]
  simp only [CMV] at h
  simp only [VMV] at hW
  have n1 : ¬ W / 67108864 = 5 := by omega
  have n2 : ¬ W / 67108864 = 37 := by omega
  have e0 : W / 16777216 = 210 := by omega
  unfold opOf
  rw [if_neg n1, if_neg n2]
  simp [e0]
theorem dec16 (rd rn rm ra imm shift cond : Int) (h : CMV rd rn rm ra imm shift cond) : dec (VMV 3531603968 rd rn rm ra imm shift cond) = (⟨16, rd, rn, rm, ra, imm, shift, cond⟩ : S61) := by
  unfold dec
  rw [opOf16 _ _ _ _ _ _ _ h]
  obtain ⟨W, hW⟩ : ∃ W, W = VMV 3531603968 rd rn rm ra imm shift cond := ⟨_, rfl⟩
  rw [← hW]
  simp only [CMV] at h
  simp only [VMV] at hW
  unfold decOp
  rw [if_neg (by decide)]
  rw [if_neg (by decide)]
  rw [if_pos (by decide)]
  simp only [S61.mk.injEq]
  skip
  refine ⟨trivial, ?_, ?_, ?_, ?_, ?_, ?_, ?_⟩ <;> first | omega | (split <;> omega)
theorem opOf17 (rd rn rm ra imm shift cond : Int) (h : CMV rd rn rm ra imm shift cond) : opOf (VMV 4068474880 rd rn rm ra imm shift cond) = 17 := by
  obtain ⟨W, hW⟩ : ∃ W, W = VMV 4068474880 rd rn rm ra imm shift cond := ⟨_, rfl⟩
  rw [← hW]
  simp only [CMV] at h
  simp only [VMV] at hW
  have n1 : ¬ W / 67108864 = 5 := by omega
  have n2 : ¬ W / 67108864 = 37 := by omega
  have e0 : W / 16777216 = 242 := by omega
  unfold opOf
  rw [if_neg n1, if_neg n2]
  simp [e0]
theorem dec17 (rd rn rm ra imm shift cond : Int) (h : CMV rd rn rm ra imm shift cond) : dec (VMV 4068474880 rd rn rm ra imm shift cond) = (⟨17, rd, rn, rm, ra, imm, shift, cond⟩ : S61) := by
  unfold dec
  rw [opOf17 _ _ _ _ _ _ _ h]
  obtain ⟨W, hW⟩ : ∃ W, W = VMV 4068474880 rd rn rm ra imm shift cond := ⟨_, rfl⟩
  rw [← hW]
  simp only [CMV] at h
  simp only [VMV] at hW
  unfold decOp
  rw [if_neg (by decide)]
  rw [if_neg (by decide)]
  rw [if_pos (by decide)]
  simp only [S61.mk.injEq]
  skip
  refine ⟨trivial, ?_, ?_, ?_, ?_, ?_, ?_, ?_⟩ <;> first | omega | (split <;> omega)
theorem opOf18 (rd rn rm ra imm shift cond : Int) (h : CMV rd rn rm ra imm shift cond) : opOf (VMV 2457862144 rd rn rm ra imm shift cond) = 18 := by
  obtain ⟨W, hW⟩ : ∃ W, W = VMV 2457862144 rd rn rm ra imm shift cond := ⟨_, rfl⟩
  rw [← hW]
  simp only [CMV] at h
  simp only [VMV] at hW
  have n1 : ¬ W / 67108864 = 5 := by omega
  have n2 : ¬ W / 67108864 = 37 := by omega
  have e0 : W / 16777216 = 146 := by omega
  unfold opOf
  rw [if_neg n1, if_neg n2]
  simp [e0]
theorem dec18 (rd rn rm ra imm shift cond : Int) (h : CMV rd rn rm ra imm shift cond) : dec (VMV 2457862144 rd rn rm ra imm shift cond) = (⟨18, rd, rn, rm, ra, imm, shift, cond⟩ : S61) := by
  unfold dec
  rw [opOf18 _ _ _ _ _ _ _ h]
  obtain ⟨W, hW⟩ : ∃ W, W = VMV 2457862144 rd rn rm ra imm shift cond := ⟨_, rfl⟩
  rw [← hW]
  simp only [CMV] at h
  simp only [VMV] at hW
  unfold decOp
  rw [if_neg (by decide)]
  rw [if_neg (by decide)]
  rw [if_pos (by decide)]
  simp only [S61.mk.injEq]
  skip
  refine ⟨trivial, ?_, ?_, ?_, ?_, ?_, ?_, ?_⟩ <;> first | omega | (split <;> omega)
theorem opOf19 (rd rn rm ra imm shift cond : Int) (h : CRI rd rn rm ra imm shift cond) : opOf (VRI 4181721088 rd rn rm ra imm shift cond) = 19 := by
  obtain ⟨W, hW⟩ : ∃ W, W = VRI 4181721088 rd rn rm ra imm shift cond := ⟨_, rfl⟩
  rw [← hW]
  simp only [CRI] at h
  simp only [VRI] at hW
  have n1 : ¬ W / 67108864 = 5 := by omega
  have n2 : ¬ W / 67108864 = 37 := by omega
  have e0 : W / 16777216 = 249 := by omega
  have e1 : W / 4194304 % 2 = 1 := by omega
  unfold opOf
  rw [if_neg n1, if_neg n2]
  simp [e0, e1]
theorem dec19 (rd rn rm ra imm shift cond : Int) (h : CRI rd rn rm ra imm shift cond) : dec (VRI 4181721088 rd rn rm ra imm shift cond) = (⟨19, rd, rn, rm, ra, imm, shift, cond⟩ : S61) := by
  unfold dec
  rw [opOf19 _ _ _ _ _ _ _ h]
  obtain ⟨W, hW⟩ : ∃ W, W = VRI 4181721088 rd rn rm ra imm shift cond := ⟨_, rfl⟩
  rw [← hW]
  simp only [CRI] at h
  simp only [VRI] at hW
  unfold decOp
  rw [if_pos (by decide)]
  simp only [S61.mk.injEq]
  skip
  refine ⟨trivial, ?_, ?_, ?_, ?_, ?_, ?_, ?_⟩ <;> first | omega | (split <;> omega)
theorem opOf20 (rd rn rm ra imm shift cond : Int) (h : CRI rd rn rm ra imm shift cond) : opOf (VRI 4177526784 rd rn rm ra imm shift cond) = 20 := by
  obtain ⟨W, hW⟩ : ∃ W, W = VRI 4177526784 rd rn rm ra imm shift cond := ⟨_, rfl⟩
  rw [← hW]
  simp only [CRI] at h
  simp only [VRI] at hW
  have n1 : ¬ W / 67108864 = 5 := by omega
  have n2 : ¬ W / 67108864 = 37 := by omega
  have e0 : W / 16777216 = 249 := by omega
  have e1 : W / 4194304 % 2 = 0 := by omega
  unfold opOf
  rw [if_neg n1, if_neg n2]
  simp [e0, e1]
theorem dec20 (rd rn rm ra imm shift cond : Int) (h : CRI rd rn rm ra imm shift cond) : dec (VRI 4177526784 rd rn rm ra imm shift cond) = (⟨20, rd, rn, rm, ra, imm, shift, cond⟩ : S61) := by
  unfold dec
  rw [opOf20 _ _ _ _ _ _ _ h]
  obtain ⟨W, hW⟩ : ∃ W, W = VRI 4177526784 rd rn rm ra imm shift cond := ⟨_, rfl⟩
  rw [← hW]
  simp only [CRI] at h
  simp only [VRI] at hW
  unfold decOp
  rw [if_pos (by decide)]
  simp only [S61.mk.injEq]
  skip
  refine ⟨trivial, ?_, ?_, ?_, ?_, ?_, ?_, ?_⟩ <;> first | omega | (split <;> omega)
theorem opOf21 (rd rn rm ra imm shift cond : Int) (h : CCS rd rn rm ra imm shift cond) : opOf (VCS 2592079872 rd rn rm ra imm shift cond) = 21 := by
  obtain ⟨W, hW⟩ : ∃ W, W = VCS 2592079872 rd rn rm ra imm shift cond := ⟨_, rfl⟩
  rw [← hW]
  simp only [CCS] at h
  simp only [VCS] at hW
  have n1 : ¬ W / 67108864 = 5 := by omega
  have n2 : ¬ W / 67108864 = 37 := by omega
  have e0 : W / 16777216 = 154 := by omega
  have e1 : W / 4194304 % 2 = 0 := by omega
  have e2 : W / 1024 % 2 = 0 := by omega
  unfold opOf
  rw [if_neg n1, if_neg n2]
  simp [e0, e1, e2]
theorem dec21 (rd rn rm ra imm shift cond : Int) (h : CCS rd rn rm ra imm shift cond) : dec (VCS 2592079872 rd rn rm ra imm shift cond) = (⟨21, rd, rn, rm, ra, imm, shift, cond⟩ : S61) := by
  unfold dec
  rw [opOf21 _ _ _ _ _ _ _ h]
  obtain ⟨W, hW⟩ : ∃ W, W = VCS 2592079872 rd rn rm ra imm shift cond := ⟨_, rfl⟩
  rw [← hW]
  simp only [CCS] at h
  simp only [VCS] at hW
  unfold decOp
  rw [if_neg (by decide)]
  rw [if_neg (by decide)]
  rw [if_neg (by decide)]
  rw [if_pos (by decide)]
  simp only [S61.mk.injEq]
  skip
  refine ⟨trivial, ?_, ?_, ?_, ?_, ?_, ?_, ?_⟩ <;> first | omega | (split <;> omega)
theorem opOf22 (rd rn rm ra imm shift cond : Int) (h : CCS rd rn rm ra imm shift cond) : opOf (VCS 2592080896 rd rn rm ra imm shift cond) = 22 := by
  obtain ⟨W, hW⟩ : ∃ W, W = VCS 2592080896 rd rn rm ra imm shift cond := ⟨_, rfl⟩
  rw [← hW]
  simp only [CCS] at h
  simp only [VCS] at hW
  have n1 : ¬ W / 67108864 = 5 := by omega
  have n2 : ¬ W / 67108864 = 37 := by omega
  have e0 : W / 16777216 = 154 := by omega
  have e1 : W / 4194304 % 2 = 0 := by omega
  have e2 : W / 1024 % 2 = 1 := by omega
  unfold opOf
  rw [if_neg n1, if_neg n2]
  simp [e0, e1, e2]
theorem dec22 (rd rn rm ra imm shift cond : Int) (h : CCS rd rn rm ra imm shift cond) : dec (VCS 2592080896 rd rn rm ra imm shift cond) = (⟨22, rd, rn, rm, ra, imm, shift, cond⟩ : S61) := by
  unfold dec
  rw [opOf22 _ _ _ _ _ _ _ h]
  obtain ⟨W, hW⟩ : ∃ W, W = VCS 2592080896 rd rn rm ra imm shift cond := ⟨_, rfl⟩
  rw [← hW]
  simp only [CCS] at h
  simp only [VCS] at hW
  unfold decOp
  rw [if_neg (by decide)]
  rw [if_neg (by decide)]
  rw [if_neg (by decide)]
  rw [if_pos (by decide)]
  simp only [S61.mk.injEq]
  skip
  refine ⟨trivial, ?_, ?_, ?_, ?_, ?_, ?_, ?_⟩ <;> first | omega | (split <;> omega)
theorem opOf23 (rd rn rm ra imm shift cond : Int) (h : CBR rd rn rm ra imm shift cond) : opOf (VBR 335544320 rd rn rm ra imm shift cond) = 23 := by
  obtain ⟨W, hW⟩ : ∃ W, W = VBR 335544320 rd rn rm ra imm shift cond := ⟨_, rfl⟩
  rw [← hW]
  simp only [CBR] at h
  simp only [VBR] at hW
  have e0 : W / 67108864 = 5 := by omega
  unfold opOf
  simp [e0]
theorem dec23 (rd rn rm ra imm shift cond : Int) (h : CBR rd rn rm ra imm shift cond) : dec (VBR 335544320 rd rn rm ra imm shift cond) = (⟨23, rd, rn, rm, ra, imm, shift, cond⟩ : S61) := by
  unfold dec
  rw [opOf23 _ _ _ _ _ _ _ h]
  obtain ⟨W, hW⟩ : ∃ W, W = VBR 335544320 rd rn rm ra imm shift cond := ⟨_, rfl⟩
  rw [← hW]
  simp only [CBR] at h
  simp only [VBR] at hW
  unfold decOp
  rw [if_neg (by decide)]
  rw [if_neg (by decide)]
  rw [if_neg (by decide)]
  rw [if_neg (by decide)]
  rw [if_pos (by decide)]
  simp only [S61.mk.injEq]
  unfold sgn
  refine ⟨trivial, ?_, ?_, ?_, ?_, ?_, ?_, ?_⟩ <;> first | omega | (split <;> omega)
theorem opOf24 (rd rn rm ra imm shift cond : Int) (h : CBR rd rn rm ra imm shift cond) : opOf (VBR 2483027968 rd rn rm ra imm shift cond) = 24 := by
  obtain ⟨W, hW⟩ : ∃ W, W = VBR 2483027968 rd rn rm ra imm shift cond := ⟨_, rfl⟩
  rw [← hW]
  simp only [CBR] at h
  simp only [VBR] at hW
  have e0 : W / 67108864 = 37 := by omega
  unfold opOf
  simp [e0]
theorem dec24 (rd rn rm ra imm shift cond : Int) (h : CBR rd rn rm ra imm shift cond) : dec (VBR 2483027968 rd rn rm ra imm shift cond) = (⟨24, rd, rn, rm, ra, imm, shift, cond⟩ : S61) := by
  unfold dec
  rw [opOf24 _ _ _ _ _ _ _ h]
  obtain ⟨W, hW⟩ : ∃ W, W = VBR 2483027968 rd rn rm ra imm shift cond := ⟨_, rfl⟩
  rw [← hW]
  simp only [CBR] at h
  simp only [VBR] at hW
  unfold decOp
  rw [if_neg (by decide)]
  rw [if_neg (by decide)]
  rw [if_neg (by decide)]
  rw [if_neg (by decide)]
  rw [if_pos (by decide)]
  simp only [S61.mk.injEq]
  unfold sgn
  refine ⟨trivial, ?_, ?_, ?_, ?_, ?_, ?_, ?_⟩ <;> first | omega | (split <;> omega)
theorem opOf25 (rd rn rm ra imm shift cond : Int) (h : CWH rd rn rm ra imm shift cond) : opOf (VWH 1409286144 rd rn rm ra imm shift cond) = 25 := by
  obtain ⟨W, hW⟩ : ∃ W, W = VWH 1409286144 rd rn rm ra imm shift cond := ⟨_, rfl⟩
  rw [← hW]
  simp only [CWH] at h
  simp only [VWH] at hW
  have n1 : ¬ W / 67108864 = 5 := by omega
  have n2 : ¬ W / 67108864 = 37 := by omega
  have e0 : W / 16777216 = 84 := by omega
  unfold opOf
  rw [if_neg n1, if_neg n2]
  simp [e0]
theorem dec25 (rd rn rm ra imm shift cond : Int) (h : CWH rd rn rm ra imm shift cond) : dec (VWH 1409286144 rd rn rm ra imm shift cond) = (⟨25, rd, rn, rm, ra, imm, shift, cond⟩ : S61) := by
  unfold dec
  rw [opOf25 _ _ _ _ _ _ _ h]
  obtain ⟨W, hW⟩ : ∃ W, W = VWH 1409286144 rd rn rm ra imm shift cond := ⟨_, rfl⟩
  rw [← hW]
  simp only [CWH] at h
  simp only [VWH] at hW
  unfold decOp
  rw [if_neg (by decide)]
  rw [if_neg (by decide)]
  rw [if_neg (by decide)]
  rw [if_neg (by decide)]
  rw [if_neg (by decide)]
  rw [if_pos (by decide)]
  simp only [S61.mk.injEq]
  unfold sgn
  refine ⟨trivial, ?_, ?_, ?_, ?_, ?_, ?_, ?_⟩ <;> first | omega | (split <;> omega)
theorem opOf26 (rd rn rm ra imm shift cond : Int) (h : CZR rd rn rm ra imm shift cond) : opOf (VZR 3019898880 rd rn rm ra imm shift cond) = 26 := by
  obtain ⟨W, hW⟩ : ∃ W, W = VZR 3019898880 rd rn rm ra imm shift cond := ⟨_, rfl⟩
  rw [← hW]
  simp only [CZR] at h
  simp only [VZR] at hW
  have n1 : ¬ W / 67108864 = 5 := by omega
  have n2 : ¬ W / 67108864 = 37 := by omega
  have e0 : W / 16777216 = 180 := by omega
  unfold opOf
  rw [if_neg n1, if_neg n2]
  simp [e0]
theorem dec26 (rd rn rm ra imm shift cond : Int) (h : CZR rd rn rm ra imm shift cond) : dec (VZR 3019898880 rd rn rm ra imm shift cond) = (⟨26, rd, rn, rm, ra, imm, shift, cond⟩ : S61) := by
  unfold dec
  rw [opOf26 _ _ _ _ _ _ _ h]
  obtain ⟨W, hW⟩ : ∃ W, W = VZR 3019898880 rd rn rm ra imm shift cond := ⟨_, rfl⟩
  rw [← hW]
  simp only [CZR] at h
  simp only [VZR] at hW
  unfold decOp
  rw [if_neg (by decide)]
  rw [if_neg (by decide)]
  rw [if_neg (by decide)]
  rw [if_neg (by decide)]
  rw [if_neg (by decide)]
  rw [if_neg (by decide)]
  rw [if_pos (by decide)]
  simp only [S61.mk.injEq]
  unfold sgn
  refine ⟨trivial, ?_, ?_, ?_, ?_, ?_, ?_, ?_⟩ <;> first | omega | (split <;> omega)
theorem opOf27 (rd rn rm ra imm shift cond : Int) (h : CZR rd rn rm ra imm shift cond) : opOf (VZR 3036676096 rd rn rm ra imm shift cond) = 27 := by
  obtain ⟨W, hW⟩ : ∃ W, W = VZR 3036676096 rd rn rm ra imm shift cond := ⟨_, rfl⟩
  rw [← hW]
  simp only [CZR] at h
  simp only [VZR] at hW
  have n1 : ¬ W / 67108864 = 5 := by omega
  have n2 : ¬ W / 67108864 = 37 := by omega
  have e0 : W / 16777216 = 181 := by omega
  unfold opOf
  rw [if_neg n1, if_neg n2]
  simp [e0]
theorem dec27 (rd rn rm ra imm shift cond : Int) (h : CZR rd rn rm ra imm shift cond) : dec (VZR 3036676096 rd rn rm ra imm shift cond) = (⟨27, rd, rn, rm, ra, imm, shift, cond⟩ : S61) := by
  unfold dec
  rw [opOf27 _ _ _ _ _ _ _ h]
  obtain ⟨W, hW⟩ : ∃ W, W = VZR 3036676096 rd rn rm ra imm shift cond := ⟨_, rfl⟩
  rw [← hW]
  simp only [CZR] at h
  simp only [VZR] at hW
  unfold decOp
  rw [if_neg (by decide)]
  rw [if_neg (by decide)]
  rw [if_neg (by decide)]
  rw [if_neg (by decide)]
  rw [if_neg (by decide)]
  rw [if_neg (by decide)]
  rw [if_pos (by decide)]
  simp only [S61.mk.injEq]
  unfold sgn
  refine ⟨trivial, ?_, ?_, ?_, ?_, ?_, ?_, ?_⟩ <;> first | omega | (split <;> omega)
theorem opOf28 (rd rn rm ra imm shift cond : Int) (h : CRT rd rn rm ra imm shift cond) : opOf (VRT 3596550144 rd rn rm ra imm shift cond) = 28 := by
  obtain ⟨W, hW⟩ : ∃ W, W = VRT 3596550144 rd rn rm ra imm shift cond := ⟨_, rfl⟩
  rw [← hW]
  simp only [CRT] at h
  simp only [VRT] at hW
  have n1 : ¬ W / 67108864 = 5 := by omega
  have n2 : ¬ W / 67108864 = 37 := by omega
  have e0 : W / 16777216 = 214 := by omega
  unfold opOf
  rw [if_neg n1, if_neg n2]
  simp [e0]
theorem dec28 (rd rn rm ra imm shift cond : Int) (h : CRT rd rn rm ra imm shift cond) : dec (VRT 3596550144 rd rn rm ra imm shift cond) = (⟨28, rd, rn, rm, ra, imm, shift, cond⟩ : S61) := by
  unfold dec
  rw [opOf28 _ _ _ _ _ _ _ h]
  obtain ⟨W, hW⟩ : ∃ W, W = VRT 3596550144 rd rn rm ra imm shift cond := ⟨_, rfl⟩
  rw [← hW]
  simp only [CRT] at h
  simp only [VRT] at hW
  unfold decOp
  rw [if_neg (by decide)]
  rw [if_neg (by decide)]
  rw [if_neg (by decide)]
  rw [if_neg (by decide)]
  rw [if_neg (by decide)]
  rw [if_neg (by decide)]
  rw [if_neg (by decide)]
  rw [if_pos (by decide)]
  simp only [S61.mk.injEq]
  skip
  refine ⟨trivial, ?_, ?_, ?_, ?_, ?_, ?_, ?_⟩ <;> first | omega | (split <;> omega)
theorem opOf29 (rd rn rm ra imm shift cond : Int) (h : CSV rd rn rm ra imm shift cond) : opOf (VSV 3556769793 rd rn rm ra imm shift cond) = 29 := by
  obtain ⟨W, hW⟩ : ∃ W, W = VSV 3556769793 rd rn rm ra imm shift cond := ⟨_, rfl⟩
  rw [← hW]
  simp only [CSV] at h
  simp only [VSV] at hW
  have n1 : ¬ W / 67108864 = 5 := by omega
  have n2 : ¬ W / 67108864 = 37 := by omega
  have e0 : W / 16777216 = 212 := by omega
  have e1 : W % 2 = 1 := by omega
  unfold opOf
  rw [if_neg n1, if_neg n2]
  simp [e0, e1]
theorem dec29 (rd rn rm ra imm shift cond : Int) (h : CSV rd rn rm ra imm shift cond) : dec (VSV 3556769793 rd rn rm ra imm shift cond) = (⟨29, rd, rn, rm, ra, imm, shift, cond⟩ : S61) := by
  unfold dec
  rw [opOf29 _ _ _ _ _ _ _ h]
  obtain ⟨W, hW⟩ : ∃ W, W = VSV 3556769793 rd rn rm ra imm shift cond := ⟨_, rfl⟩
  rw [← hW]
  simp only [CSV] at h
  simp only [VSV] at hW
  unfold decOp
  rw [if_neg (by decide)]
  rw [if_neg (by decide)]
  rw [if_neg (by decide)]
  rw [if_neg (by decide)]
  rw [if_neg (by decide)]
  rw [if_neg (by decide)]
  rw [if_neg (by decide)]
  rw [if_neg (by decide)]
  rw [if_pos (by decide)]
  simp only [S61.mk.injEq]
  skip
  refine ⟨trivial, ?_, ?_, ?_, ?_, ?_, ?_, ?_⟩ <;> first | omega | (split <;> omega)
theorem opOf30 (rd rn rm ra imm shift cond : Int) (h : CSV rd rn rm ra imm shift cond) : opOf (VSV 3558866944 rd rn rm ra imm shift cond) = 30 := by
  obtain ⟨W, hW⟩ : ∃ W, W = VSV 3558866944 rd rn rm ra imm shift cond := ⟨_, rfl⟩
  rw [← hW]
  simp only [CSV] at h
  simp only [VSV] at hW
  have n1 : ¬ W / 67108864 = 5 := by omega
  have n2 : ¬ W / 67108864 = 37 := by omega
  have e0 : W / 16777216 = 212 := by omega
  have e1 : W % 2 = 0 := by omega
  unfold opOf
  rw [if_neg n1, if_neg n2]
  simp [e0, e1]
theorem dec30 (rd rn rm ra imm shift cond : Int) (h : CSV rd rn rm ra imm shift cond) : dec (VSV 3558866944 rd rn rm ra imm shift cond) = (⟨30, rd, rn, rm, ra, imm, shift, cond⟩ : S61) := by
  unfold dec
  rw [opOf30 _ _ _ _ _ _ _ h]
  obtain ⟨W, hW⟩ : ∃ W, W = VSV 3558866944 rd rn rm ra imm shift cond := ⟨_, rfl⟩
  rw [← hW]
  simp only [CSV] at h
  simp only [VSV] at hW
  unfold decOp
  rw [if_neg (by decide)]
  rw [if_neg (by decide)]
  rw [if_neg (by decide)]
  rw [if_neg (by decide)]
  rw [if_neg (by decide)]
  rw [if_neg (by decide)]
  rw [if_neg (by decide)]
  rw [if_neg (by decide)]
  rw [if_pos (by decide)]
  simp only [S61.mk.injEq]
  skip
  refine ⟨trivial, ?_, ?_, ?_, ?_, ?_, ?_, ?_⟩ <;> first | omega | (split <;> omega)
theorem opOf31 (rd rn rm ra imm shift cond : Int) (h : CST rd rn rm ra imm shift cond) : opOf (VST 3573751839 rd rn rm ra imm shift cond) = 31 := by
  obtain ⟨W, hW⟩ : ∃ W, W = VST 3573751839 rd rn rm ra imm shift cond := ⟨_, rfl⟩
  rw [← hW]
  simp only [CST] at h
  simp only [VST] at hW
  have n1 : ¬ W / 67108864 = 5 := by omega
  have n2 : ¬ W / 67108864 = 37 := by omega
  have e0 : W / 16777216 = 213 := by omega
  unfold opOf
  rw [if_neg n1, if_neg n2]
  simp [e0]
theorem dec31 (rd rn rm ra imm shift cond : Int) (h : CST rd rn rm ra imm shift cond) : dec (VST 3573751839 rd rn rm ra imm shift cond) = (⟨31, rd, rn, rm, ra, imm, shift, cond⟩ : S61) := by
  unfold dec
  rw [opOf31 _ _ _ _ _ _ _ h]
  obtain ⟨W, hW⟩ : ∃ W, W = VST 3573751839 rd rn rm ra imm shift cond := ⟨_, rfl⟩
  rw [← hW]
  simp only [CST] at h
  simp only [VST] at hW
  unfold decOp
  rw [if_neg (by decide)]
  rw [if_neg (by decide)]
  rw [if_neg (by decide)]
  rw [if_neg (by decide)]
  rw [if_neg (by decide)]
  rw [if_neg (by decide)]
  rw [if_neg (by decide)]
  rw [if_neg (by decide)]
  rw [if_neg (by decide)]
  rw [if_pos (by decide)]
  simp only [S61.mk.injEq]
  skip
  refine ⟨trivial, ?_, ?_, ?_, ?_, ?_, ?_, ?_⟩ <;> first | omega | (split <;> omega)
/-- Encode, of whatever op: nothing, or a word that says what it was made of. -/
theorem enc_dec (op rd rn rm ra imm shift cond : Int) : encode_Encode.f op rd rn rm ra imm shift cond = some (0, 120) ∨ ∃ W, encode_Encode.f op rd rn rm ra imm shift cond = some (W, 0) ∧ dec W = (⟨op, rd, rn, rm, ra, imm, shift, cond⟩ : S61) := by
  by_cases h0 : op < 1 ∨ 31 < op
  · exact .inl (enc_none _ _ _ _ _ _ _ _ h0)
  · have hc : op = 1 ∨ op = 2 ∨ op = 3 ∨ op = 4 ∨ op = 5 ∨ op = 6 ∨ op = 7 ∨ op = 8 ∨ op = 9 ∨ op = 10 ∨ op = 11 ∨ op = 12 ∨ op = 13 ∨ op = 14 ∨ op = 15 ∨ op = 16 ∨ op = 17 ∨ op = 18 ∨ op = 19 ∨ op = 20 ∨ op = 21 ∨ op = 22 ∨ op = 23 ∨ op = 24 ∨ op = 25 ∨ op = 26 ∨ op = 27 ∨ op = 28 ∨ op = 29 ∨ op = 30 ∨ op = 31 := by omega
    rcases hc with rfl | rfl | rfl | rfl | rfl | rfl | rfl | rfl | rfl | rfl | rfl | rfl | rfl | rfl | rfl | rfl | rfl | rfl | rfl | rfl | rfl | rfl | rfl | rfl | rfl | rfl | rfl | rfl | rfl | rfl | rfl
    · by_cases h : CR3 rd rn rm ra imm shift cond
      · exact .inr ⟨_, by rw [enc1, if_pos h], dec1 _ _ _ _ _ _ _ h⟩
      · exact .inl (by rw [enc1, if_neg h])
    · by_cases h : CR3 rd rn rm ra imm shift cond
      · exact .inr ⟨_, by rw [enc2, if_pos h], dec2 _ _ _ _ _ _ _ h⟩
      · exact .inl (by rw [enc2, if_neg h])
    · by_cases h : CR3 rd rn rm ra imm shift cond
      · exact .inr ⟨_, by rw [enc3, if_pos h], dec3 _ _ _ _ _ _ _ h⟩
      · exact .inl (by rw [enc3, if_neg h])
    · by_cases h : CRI rd rn rm ra imm shift cond
      · exact .inr ⟨_, by rw [enc4, if_pos h], dec4 _ _ _ _ _ _ _ h⟩
      · exact .inl (by rw [enc4, if_neg h])
    · by_cases h : CRI rd rn rm ra imm shift cond
      · exact .inr ⟨_, by rw [enc5, if_pos h], dec5 _ _ _ _ _ _ _ h⟩
      · exact .inl (by rw [enc5, if_neg h])
    · by_cases h : CRI rd rn rm ra imm shift cond
      · exact .inr ⟨_, by rw [enc6, if_pos h], dec6 _ _ _ _ _ _ _ h⟩
      · exact .inl (by rw [enc6, if_neg h])
    · by_cases h : CR3 rd rn rm ra imm shift cond
      · exact .inr ⟨_, by rw [enc7, if_pos h], dec7 _ _ _ _ _ _ _ h⟩
      · exact .inl (by rw [enc7, if_neg h])
    · by_cases h : CR3 rd rn rm ra imm shift cond
      · exact .inr ⟨_, by rw [enc8, if_pos h], dec8 _ _ _ _ _ _ _ h⟩
      · exact .inl (by rw [enc8, if_neg h])
    · by_cases h : CR3 rd rn rm ra imm shift cond
      · exact .inr ⟨_, by rw [enc9, if_pos h], dec9 _ _ _ _ _ _ _ h⟩
      · exact .inl (by rw [enc9, if_neg h])
    · by_cases h : CR3 rd rn rm ra imm shift cond
      · exact .inr ⟨_, by rw [enc10, if_pos h], dec10 _ _ _ _ _ _ _ h⟩
      · exact .inl (by rw [enc10, if_neg h])
    · by_cases h : CR4 rd rn rm ra imm shift cond
      · exact .inr ⟨_, by rw [enc11, if_pos h], dec11 _ _ _ _ _ _ _ h⟩
      · exact .inl (by rw [enc11, if_neg h])
    · by_cases h : CR4 rd rn rm ra imm shift cond
      · exact .inr ⟨_, by rw [enc12, if_pos h], dec12 _ _ _ _ _ _ _ h⟩
      · exact .inl (by rw [enc12, if_neg h])
    · by_cases h : CR3 rd rn rm ra imm shift cond
      · exact .inr ⟨_, by rw [enc13, if_pos h], dec13 _ _ _ _ _ _ _ h⟩
      · exact .inl (by rw [enc13, if_neg h])
    · by_cases h : CR3 rd rn rm ra imm shift cond
      · exact .inr ⟨_, by rw [enc14, if_pos h], dec14 _ _ _ _ _ _ _ h⟩
      · exact .inl (by rw [enc14, if_neg h])
    · by_cases h : CR3 rd rn rm ra imm shift cond
      · exact .inr ⟨_, by rw [enc15, if_pos h], dec15 _ _ _ _ _ _ _ h⟩
      · exact .inl (by rw [enc15, if_neg h])
    · by_cases h : CMV rd rn rm ra imm shift cond
      · exact .inr ⟨_, by rw [enc16, if_pos h], dec16 _ _ _ _ _ _ _ h⟩
      · exact .inl (by rw [enc16, if_neg h])
    · by_cases h : CMV rd rn rm ra imm shift cond
      · exact .inr ⟨_, by rw [enc17, if_pos h], dec17 _ _ _ _ _ _ _ h⟩
      · exact .inl (by rw [enc17, if_neg h])
    · by_cases h : CMV rd rn rm ra imm shift cond
      · exact .inr ⟨_, by rw [enc18, if_pos h], dec18 _ _ _ _ _ _ _ h⟩
      · exact .inl (by rw [enc18, if_neg h])
    · by_cases h : CRI rd rn rm ra imm shift cond
      · exact .inr ⟨_, by rw [enc19, if_pos h], dec19 _ _ _ _ _ _ _ h⟩
      · exact .inl (by rw [enc19, if_neg h])
    · by_cases h : CRI rd rn rm ra imm shift cond
      · exact .inr ⟨_, by rw [enc20, if_pos h], dec20 _ _ _ _ _ _ _ h⟩
      · exact .inl (by rw [enc20, if_neg h])
    · by_cases h : CCS rd rn rm ra imm shift cond
      · exact .inr ⟨_, by rw [enc21, if_pos h], dec21 _ _ _ _ _ _ _ h⟩
      · exact .inl (by rw [enc21, if_neg h])
    · by_cases h : CCS rd rn rm ra imm shift cond
      · exact .inr ⟨_, by rw [enc22, if_pos h], dec22 _ _ _ _ _ _ _ h⟩
      · exact .inl (by rw [enc22, if_neg h])
    · by_cases h : CBR rd rn rm ra imm shift cond
      · exact .inr ⟨_, by rw [enc23, if_pos h], dec23 _ _ _ _ _ _ _ h⟩
      · exact .inl (by rw [enc23, if_neg h])
    · by_cases h : CBR rd rn rm ra imm shift cond
      · exact .inr ⟨_, by rw [enc24, if_pos h], dec24 _ _ _ _ _ _ _ h⟩
      · exact .inl (by rw [enc24, if_neg h])
    · by_cases h : CWH rd rn rm ra imm shift cond
      · exact .inr ⟨_, by rw [enc25, if_pos h], dec25 _ _ _ _ _ _ _ h⟩
      · exact .inl (by rw [enc25, if_neg h])
    · by_cases h : CZR rd rn rm ra imm shift cond
      · exact .inr ⟨_, by rw [enc26, if_pos h], dec26 _ _ _ _ _ _ _ h⟩
      · exact .inl (by rw [enc26, if_neg h])
    · by_cases h : CZR rd rn rm ra imm shift cond
      · exact .inr ⟨_, by rw [enc27, if_pos h], dec27 _ _ _ _ _ _ _ h⟩
      · exact .inl (by rw [enc27, if_neg h])
    · by_cases h : CRT rd rn rm ra imm shift cond
      · exact .inr ⟨_, by rw [enc28, if_pos h], dec28 _ _ _ _ _ _ _ h⟩
      · exact .inl (by rw [enc28, if_neg h])
    · by_cases h : CSV rd rn rm ra imm shift cond
      · exact .inr ⟨_, by rw [enc29, if_pos h], dec29 _ _ _ _ _ _ _ h⟩
      · exact .inl (by rw [enc29, if_neg h])
    · by_cases h : CSV rd rn rm ra imm shift cond
      · exact .inr ⟨_, by rw [enc30, if_pos h], dec30 _ _ _ _ _ _ _ h⟩
      · exact .inl (by rw [enc30, if_neg h])
    · by_cases h : CST rd rn rm ra imm shift cond
      · exact .inr ⟨_, by rw [enc31, if_pos h], dec31 _ _ _ _ _ _ _ h⟩
      · exact .inl (by rw [enc31, if_neg h])
end Go.Proofs.Ytjhgbddcenhkfaa.A64

set_option linter.unusedVariables false
set_option linter.unusedSimpArgs false
namespace Go.Proofs.Ytjhgbddcenhkfaa.P
open Go.RowKit Go.Proofs.YtjhgbddcenhkfaaW.PrintWords Go.Proofs.YtjhgbddcenhkfaaW.PrintLast Go.Proofs.YtjhgbddcenhkfaaW.PrintMore Go.Proofs.Ytjhgbddcenhkfaa.A64
theorem bt_is (W : Int) (a s : Nat) (h0 : 0 ≤ W) (h1 : W < 4294967296) (ha : a ≤ 32) (hs : s ≤ 31) (hm : ((shl .u32 1 (s : Int)) - 1) % 4294967296 = 2 ^ s - 1) : bt W (a : Int) (s : Int) = W / 2 ^ a % 2 ^ s := by
  have e1 : shr .u32 W (a : Int) = W / 2 ^ a := by
    unfold shr
    rw [Int.toNat_natCast, Nat.min_eq_left (show a ≤ IntKind.u32.bits from ha)]
  have hx0 : 0 ≤ W / 2 ^ a := Int.ediv_nonneg h0 (Int.le_of_lt (Int.pow_pos (by decide)))
  have hx1 : W / 2 ^ a ≤ W := by
    have := Int.ediv_le_self (a := W) (2 ^ a) h0
    exact this
  unfold bt decode_bits.f
  rw [if_pos (by omega), if_pos (by omega), e1, hm, and_mask _ _ s (by omega) hx0 (by omega) rfl]
  show wrap64 (W / 2 ^ a % 2 ^ s) = _
  have hp : (0 : Int) < 2 ^ s := Int.pow_pos (by decide)
  have h2 := Int.emod_nonneg (W / 2 ^ a) (Int.ne_of_gt hp)
  have h3 := Int.emod_lt_of_pos (W / 2 ^ a) hp
  generalize W / 2 ^ a % 2 ^ s = y at h2 h3 ⊢
  generalize (2 : Int) ^ s = z at *
  unfold wrap64
  omega
section
variable (W : Int) (h0 : 0 ≤ W) (h1 : W < 4294967296)
include h0 h1
theorem bt0_5 : bt W 0 5 = W % 32 := by
  have h := bt_is W 0 5 h0 h1 (by decide) (by decide) (by decide)
  simpa using h
theorem bt5_5 : bt W 5 5 = W / 32 % 32 := by
  have h := bt_is W 5 5 h0 h1 (by decide) (by decide) (by decide)
  simpa using h
theorem bt16_5 : bt W 16 5 = W / 65536 % 32 := by
  have h := bt_is W 16 5 h0 h1 (by decide) (by decide) (by decide)
  simpa using h
theorem bt10_5 : bt W 10 5 = W / 1024 % 32 := by
  have h := bt_is W 10 5 h0 h1 (by decide) (by decide) (by decide)
  simpa using h
theorem bt10_12 : bt W 10 12 = W / 1024 % 4096 := by
  have h := bt_is W 10 12 h0 h1 (by decide) (by decide) (by decide)
  simpa using h
theorem bt5_16 : bt W 5 16 = W / 32 % 65536 := by
  have h := bt_is W 5 16 h0 h1 (by decide) (by decide) (by decide)
  simpa using h
theorem bt21_2 : bt W 21 2 = W / 2097152 % 4 := by
  have h := bt_is W 21 2 h0 h1 (by decide) (by decide) (by decide)
  simpa using h
theorem bt12_4 : bt W 12 4 = W / 4096 % 16 := by
  have h := bt_is W 12 4 h0 h1 (by decide) (by decide) (by decide)
  simpa using h
theorem bt0_4 : bt W 0 4 = W % 16 := by
  have h := bt_is W 0 4 h0 h1 (by decide) (by decide) (by decide)
  simpa using h
theorem bt0_26 : bt W 0 26 = W % 67108864 := by
  have h := bt_is W 0 26 h0 h1 (by decide) (by decide) (by decide)
  simpa using h
theorem bt5_19 : bt W 5 19 = W / 32 % 524288 := by
  have h := bt_is W 5 19 h0 h1 (by decide) (by decide) (by decide)
  simpa using h
theorem sg0_26 : sg W 0 26 = if W % 67108864 ≥ 33554432 then W % 67108864 - 67108864 else W % 67108864 := by
  have h := bt0_26 W h0 h1
  have hb : decode_bits.f W 0 26 = some (W % 67108864) := by rw [← h]; exact getD_of (bits_some W 0 26 (by decide) (by decide))
  unfold sg decode_signed.f
  rw [hb, Option.bind_some, if_pos (by unfold wrap64; decide), show shl .i64 1 (wrap64 (26 - 1)) = 33554432 by decide +kernel, show shl .i64 1 26 = 67108864 by decide +kernel]
  split
  · rw [if_pos (by decide)]
    show wrap64 _ = _
    unfold wrap64
    omega
  · rfl
theorem sg5_19 : sg W 5 19 = if W / 32 % 524288 ≥ 262144 then W / 32 % 524288 - 524288 else W / 32 % 524288 := by
  have h := bt5_19 W h0 h1
  have hb : decode_bits.f W 5 19 = some (W / 32 % 524288) := by rw [← h]; exact getD_of (bits_some W 5 19 (by decide) (by decide))
  unfold sg decode_signed.f
  rw [hb, Option.bind_some, if_pos (by unfold wrap64; decide), show shl .i64 1 (wrap64 (19 - 1)) = 262144 by decide +kernel, show shl .i64 1 19 = 524288 by decide +kernel]
  split
  · rw [if_pos (by decide)]
    show wrap64 _ = _
    unfold wrap64
    omega
  · rfl
end
/-- What is guessed of a word that was encoded, and that its op is tried. -/
def Said (W op rd rn rm ra imm shift cond : Int) : Prop := (∃ L, decode_class.f W = some L ∧ op ∈ L) ∧ gs W op = (op, rd, rn, rm, ra, imm, shift, cond)
theorem said1 (rd rn rm ra imm shift cond W : Int) (h : encode_Encode.f 1 rd rn rm ra imm shift cond = some (W, 0)) : Said W 1 rd rn rm ra imm shift cond := by
  rw [enc1] at h
  split at h
  rotate_left
  · simp at h
  rename_i hc
  simp only [CR3] at hc
  have hW : VR3 _ rd rn rm ra imm shift cond = W := (Prod.mk.inj (Option.some.inj h)).1
  clear h
  simp only [VR3] at hW
  have ht : W / 16777216 = 139 := by omega
  have hcl : decode_class.f W = some [1] := by unfold decode_class.f; rw [ht]; rfl
  refine ⟨⟨_, hcl, by decide⟩, ?_⟩
  have h0 : 0 ≤ W := by omega
  have h1 : W < 4294967296 := by omega
  show (1, bt W 0 5, bt W 5 5, bt W 16 5, 0, 0, 0, 0) = _
  rw [bt0_5 W h0 h1, bt5_5 W h0 h1, bt16_5 W h0 h1]
  have e5 : W / 32 = 72876032 + 1 * (rn) + 2048 * (rm) := by omega
  have e16 : W / 65536 = 35584 + 1 * (rm) := by omega
  simp only [Prod.mk.injEq]
  and_intros <;> first | trivial | omega
theorem said2 (rd rn rm ra imm shift cond W : Int) (h : encode_Encode.f 2 rd rn rm ra imm shift cond = some (W, 0)) : Said W 2 rd rn rm ra imm shift cond := by
  rw [enc2] at h
  split at h
  rotate_left
  · simp at h
  rename_i hc
  simp only [CR3] at hc
  have hW : VR3 _ rd rn rm ra imm shift cond = W := (Prod.mk.inj (Option.some.inj h)).1
  clear h
  simp only [VR3] at hW
  have ht : W / 16777216 = 203 := by omega
  have hcl : decode_class.f W = some [2] := by unfold decode_class.f; rw [ht]; rfl
  refine ⟨⟨_, hcl, by decide⟩, ?_⟩
  have h0 : 0 ≤ W := by omega
  have h1 : W < 4294967296 := by omega
  show (2, bt W 0 5, bt W 5 5, bt W 16 5, 0, 0, 0, 0) = _
  rw [bt0_5 W h0 h1, bt5_5 W h0 h1, bt16_5 W h0 h1]
  have e5 : W / 32 = 106430464 + 1 * (rn) + 2048 * (rm) := by omega
  have e16 : W / 65536 = 51968 + 1 * (rm) := by omega
  simp only [Prod.mk.injEq]
  and_intros <;> first | trivial | omega
theorem said3 (rd rn rm ra imm shift cond W : Int) (h : encode_Encode.f 3 rd rn rm ra imm shift cond = some (W, 0)) : Said W 3 rd rn rm ra imm shift cond := by
  rw [enc3] at h
  split at h
  rotate_left
  · simp at h
  rename_i hc
  simp only [CR3] at hc
  have hW : VR3 _ rd rn rm ra imm shift cond = W := (Prod.mk.inj (Option.some.inj h)).1
  clear h
  simp only [VR3] at hW
  have ht : W / 16777216 = 235 := by omega
  have hcl : decode_class.f W = some [3] := by unfold decode_class.f; rw [ht]; rfl
  refine ⟨⟨_, hcl, by decide⟩, ?_⟩
  have h0 : 0 ≤ W := by omega
  have h1 : W < 4294967296 := by omega
  show (3, bt W 0 5, bt W 5 5, bt W 16 5, 0, 0, 0, 0) = _
  rw [bt0_5 W h0 h1, bt5_5 W h0 h1, bt16_5 W h0 h1]
  have e5 : W / 32 = 123207680 + 1 * (rn) + 2048 * (rm) := by omega
  have e16 : W / 65536 = 60160 + 1 * (rm) := by omega
  simp only [Prod.mk.injEq]
  and_intros <;> first | trivial | omega
theorem said4 (rd rn rm ra imm shift cond W : Int) (h : encode_Encode.f 4 rd rn rm ra imm shift cond = some (W, 0)) : Said W 4 rd rn rm ra imm shift cond := by
  rw [enc4] at h
  split at h
  rotate_left
  · simp at h
  rename_i hc
  simp only [CRI] at hc
  have hW : VRI _ rd rn rm ra imm shift cond = W := (Prod.mk.inj (Option.some.inj h)).1
  clear h
  simp only [VRI] at hW
  have ht : W / 16777216 = 145 := by omega
  have hcl : decode_class.f W = some [4] := by unfold decode_class.f; rw [ht]; rfl
  refine ⟨⟨_, hcl, by decide⟩, ?_⟩
  have h0 : 0 ≤ W := by omega
  have h1 : W < 4294967296 := by omega
  show (4, bt W 0 5, bt W 5 5, 0, 0, bt W 10 12, 0, 0) = _
  rw [bt0_5 W h0 h1, bt5_5 W h0 h1, bt10_12 W h0 h1]
  have e5 : W / 32 = 76021760 + 1 * (rn) + 32 * (imm) := by omega
  have e10 : W / 1024 = 2375680 + 1 * (imm) := by omega
  simp only [Prod.mk.injEq]
  and_intros <;> first | trivial | omega
theorem said5 (rd rn rm ra imm shift cond W : Int) (h : encode_Encode.f 5 rd rn rm ra imm shift cond = some (W, 0)) : Said W 5 rd rn rm ra imm shift cond := by
  rw [enc5] at h
  split at h
  rotate_left
  · simp at h
  rename_i hc
  simp only [CRI] at hc
  have hW : VRI _ rd rn rm ra imm shift cond = W := (Prod.mk.inj (Option.some.inj h)).1
  clear h
  simp only [VRI] at hW
  have ht : W / 16777216 = 209 := by omega
  have hcl : decode_class.f W = some [5] := by unfold decode_class.f; rw [ht]; rfl
  refine ⟨⟨_, hcl, by decide⟩, ?_⟩
  have h0 : 0 ≤ W := by omega
  have h1 : W < 4294967296 := by omega
  show (5, bt W 0 5, bt W 5 5, 0, 0, bt W 10 12, 0, 0) = _
  rw [bt0_5 W h0 h1, bt5_5 W h0 h1, bt10_12 W h0 h1]
  have e5 : W / 32 = 109576192 + 1 * (rn) + 32 * (imm) := by omega
  have e10 : W / 1024 = 3424256 + 1 * (imm) := by omega
  simp only [Prod.mk.injEq]
  and_intros <;> first | trivial | omega
theorem said6 (rd rn rm ra imm shift cond W : Int) (h : encode_Encode.f 6 rd rn rm ra imm shift cond = some (W, 0)) : Said W 6 rd rn rm ra imm shift cond := by
  rw [enc6] at h
  split at h
  rotate_left
  · simp at h
  rename_i hc
  simp only [CRI] at hc
  have hW : VRI _ rd rn rm ra imm shift cond = W := (Prod.mk.inj (Option.some.inj h)).1
  clear h
  simp only [VRI] at hW
  have ht : W / 16777216 = 241 := by omega
  have hcl : decode_class.f W = some [6] := by unfold decode_class.f; rw [ht]; rfl
  refine ⟨⟨_, hcl, by decide⟩, ?_⟩
  have h0 : 0 ≤ W := by omega
  have h1 : W < 4294967296 := by omega
  show (6, bt W 0 5, bt W 5 5, 0, 0, bt W 10 12, 0, 0) = _
  rw [bt0_5 W h0 h1, bt5_5 W h0 h1, bt10_12 W h0 h1]
  have e5 : W / 32 = 126353408 + 1 * (rn) + 32 * (imm) := by omega
  have e10 : W / 1024 = 3948544 + 1 * (imm) := by omega
  simp only [Prod.mk.injEq]
  and_intros <;> first | trivial | omega
theorem said7 (rd rn rm ra imm shift cond W : Int) (h : encode_Encode.f 7 rd rn rm ra imm shift cond = some (W, 0)) : Said W 7 rd rn rm ra imm shift cond := by
  rw [enc7] at h
  split at h
  rotate_left
  · simp at h
  rename_i hc
  simp only [CR3] at hc
  have hW : VR3 _ rd rn rm ra imm shift cond = W := (Prod.mk.inj (Option.some.inj h)).1
  clear h
  simp only [VR3] at hW
  have ht : W / 16777216 = 138 := by omega
  have hcl : decode_class.f W = some [7] := by unfold decode_class.f; rw [ht]; rfl
  refine ⟨⟨_, hcl, by decide⟩, ?_⟩
  have h0 : 0 ≤ W := by omega
  have h1 : W < 4294967296 := by omega
  show (7, bt W 0 5, bt W 5 5, bt W 16 5, 0, 0, 0, 0) = _
  rw [bt0_5 W h0 h1, bt5_5 W h0 h1, bt16_5 W h0 h1]
  have e5 : W / 32 = 72351744 + 1 * (rn) + 2048 * (rm) := by omega
  have e16 : W / 65536 = 35328 + 1 * (rm) := by omega
  simp only [Prod.mk.injEq]
  and_intros <;> first | trivial | omega
theorem said8 (rd rn rm ra imm shift cond W : Int) (h : encode_Encode.f 8 rd rn rm ra imm shift cond = some (W, 0)) : Said W 8 rd rn rm ra imm shift cond := by
  rw [enc8] at h
  split at h
  rotate_left
  · simp at h
  rename_i hc
  simp only [CR3] at hc
  have hW : VR3 _ rd rn rm ra imm shift cond = W := (Prod.mk.inj (Option.some.inj h)).1
  clear h
  simp only [VR3] at hW
  have ht : W / 16777216 = 170 := by omega
  have hcl : decode_class.f W = some [8, 10] := by unfold decode_class.f; rw [ht]; rfl
  refine ⟨⟨_, hcl, by decide⟩, ?_⟩
  have h0 : 0 ≤ W := by omega
  have h1 : W < 4294967296 := by omega
  show (8, bt W 0 5, bt W 5 5, bt W 16 5, 0, 0, 0, 0) = _
  rw [bt0_5 W h0 h1, bt5_5 W h0 h1, bt16_5 W h0 h1]
  have e5 : W / 32 = 89128960 + 1 * (rn) + 2048 * (rm) := by omega
  have e16 : W / 65536 = 43520 + 1 * (rm) := by omega
  simp only [Prod.mk.injEq]
  and_intros <;> first | trivial | omega
theorem said9 (rd rn rm ra imm shift cond W : Int) (h : encode_Encode.f 9 rd rn rm ra imm shift cond = some (W, 0)) : Said W 9 rd rn rm ra imm shift cond := by
  rw [enc9] at h
  split at h
  rotate_left
  · simp at h
  rename_i hc
  simp only [CR3] at hc
  have hW : VR3 _ rd rn rm ra imm shift cond = W := (Prod.mk.inj (Option.some.inj h)).1
  clear h
  simp only [VR3] at hW
  have ht : W / 16777216 = 202 := by omega
  have hcl : decode_class.f W = some [9] := by unfold decode_class.f; rw [ht]; rfl
  refine ⟨⟨_, hcl, by decide⟩, ?_⟩
  have h0 : 0 ≤ W := by omega
  have h1 : W < 4294967296 := by omega
  show (9, bt W 0 5, bt W 5 5, bt W 16 5, 0, 0, 0, 0) = _
  rw [bt0_5 W h0 h1, bt5_5 W h0 h1, bt16_5 W h0 h1]
  have e5 : W / 32 = 105906176 + 1 * (rn) + 2048 * (rm) := by omega
  have e16 : W / 65536 = 51712 + 1 * (rm) := by omega
  simp only [Prod.mk.injEq]
  and_intros <;> first | trivial | omega
theorem said10 (rd rn rm ra imm shift cond W : Int) (h : encode_Encode.f 10 rd rn rm ra imm shift cond = some (W, 0)) : Said W 10 rd rn rm ra imm shift cond := by
  rw [enc10] at h
  split at h
  rotate_left
  · simp at h
  rename_i hc
  simp only [CR3] at hc
  have hW : VR3 _ rd rn rm ra imm shift cond = W := (Prod.mk.inj (Option.some.inj h)).1
  clear h
  simp only [VR3] at hW
  have ht : W / 16777216 = 170 := by omega
  have hcl : decode_class.f W = some [8, 10] := by unfold decode_class.f; rw [ht]; rfl
  refine ⟨⟨_, hcl, by decide⟩, ?_⟩
  have h0 : 0 ≤ W := by omega
  have h1 : W < 4294967296 := by omega
  show (10, bt W 0 5, bt W 5 5, bt W 16 5, 0, 0, 0, 0) = _
  rw [bt0_5 W h0 h1, bt5_5 W h0 h1, bt16_5 W h0 h1]
  have e5 : W / 32 = 89194496 + 1 * (rn) + 2048 * (rm) := by omega
  have e16 : W / 65536 = 43552 + 1 * (rm) := by omega
  simp only [Prod.mk.injEq]
  and_intros <;> first | trivial | omega
theorem said11 (rd rn rm ra imm shift cond W : Int) (h : encode_Encode.f 11 rd rn rm ra imm shift cond = some (W, 0)) : Said W 11 rd rn rm ra imm shift cond := by
  rw [enc11] at h
  split at h
  rotate_left
  · simp at h
  rename_i hc
  simp only [CR4] at hc
  have hW : VR4 _ rd rn rm ra imm shift cond = W := (Prod.mk.inj (Option.some.inj h)).1
  clear h
  simp only [VR4] at hW
  have ht : W / 16777216 = 155 := by omega
  have hcl : decode_class.f W = some [11, 12] := by unfold decode_class.f; rw [ht]; rfl
  refine ⟨⟨_, hcl, by decide⟩, ?_⟩
  have h0 : 0 ≤ W := by omega
  have h1 : W < 4294967296 := by omega
  show (11, bt W 0 5, bt W 5 5, bt W 16 5, bt W 10 5, 0, 0, 0) = _
  rw [bt0_5 W h0 h1, bt5_5 W h0 h1, bt16_5 W h0 h1, bt10_5 W h0 h1]
  have e5 : W / 32 = 81264640 + 1 * (rn) + 32 * (ra) + 2048 * (rm) := by omega
  have e10 : W / 1024 = 2539520 + 1 * (ra) + 64 * (rm) := by omega
  have e16 : W / 65536 = 39680 + 1 * (rm) := by omega
  simp only [Prod.mk.injEq]
  and_intros <;> first | trivial | omega
theorem said12 (rd rn rm ra imm shift cond W : Int) (h : encode_Encode.f 12 rd rn rm ra imm shift cond = some (W, 0)) : Said W 12 rd rn rm ra imm shift cond := by
  rw [enc12] at h
  split at h
  rotate_left
  · simp at h
  rename_i hc
  simp only [CR4] at hc
  have hW : VR4 _ rd rn rm ra imm shift cond = W := (Prod.mk.inj (Option.some.inj h)).1
  clear h
  simp only [VR4] at hW
  have ht : W / 16777216 = 155 := by omega
  have hcl : decode_class.f W = some [11, 12] := by unfold decode_class.f; rw [ht]; rfl
  refine ⟨⟨_, hcl, by decide⟩, ?_⟩
  have h0 : 0 ≤ W := by omega
  have h1 : W < 4294967296 := by omega
  show (12, bt W 0 5, bt W 5 5, bt W 16 5, bt W 10 5, 0, 0, 0) = _
  rw [bt0_5 W h0 h1, bt5_5 W h0 h1, bt16_5 W h0 h1, bt10_5 W h0 h1]
  have e5 : W / 32 = 81265664 + 1 * (rn) + 32 * (ra) + 2048 * (rm) := by omega
  have e10 : W / 1024 = 2539552 + 1 * (ra) + 64 * (rm) := by omega
  have e16 : W / 65536 = 39680 + 1 * (rm) := by omega
  simp only [Prod.mk.injEq]
  and_intros <;> first | trivial | omega
theorem said13 (rd rn rm ra imm shift cond W : Int) (h : encode_Encode.f 13 rd rn rm ra imm shift cond = some (W, 0)) : Said W 13 rd rn rm ra imm shift cond := by
  rw [enc13] at h
  split at h
  rotate_left
  · simp at h
  rename_i hc
  simp only [CR3] at hc
  have hW : VR3 _ rd rn rm ra imm shift cond = W := (Prod.mk.inj (Option.some.inj h)).1
  clear h
  simp only [VR3] at hW
  have ht : W / 16777216 = 154 := by omega
  have hcl : decode_class.f W = some [13, 14, 15, 21, 22] := by unfold decode_class.f; rw [ht]; rfl
  refine ⟨⟨_, hcl, by decide⟩, ?_⟩
  have h0 : 0 ≤ W := by omega
  have h1 : W < 4294967296 := by omega
  show (13, bt W 0 5, bt W 5 5, bt W 16 5, 0, 0, 0, 0) = _
  rw [bt0_5 W h0 h1, bt5_5 W h0 h1, bt16_5 W h0 h1]
  have e5 : W / 32 = 81133664 + 1 * (rn) + 2048 * (rm) := by omega
  have e16 : W / 65536 = 39616 + 1 * (rm) := by omega
  simp only [Prod.mk.injEq]
  and_intros <;> first | trivial | omega
theorem said14 (rd rn rm ra imm shift cond W : Int) (h : encode_Encode.f 14 rd rn rm ra imm shift cond = some (W, 0)) : Said W 14 rd rn rm ra imm shift cond := by
  rw [enc14] at h
  split at h
  rotate_left
  · simp at h
  rename_i hc
  simp only [CR3] at hc
  have hW : VR3 _ rd rn rm ra imm shift cond = W := (Prod.mk.inj (Option.some.inj h)).1
  clear h
  simp only [VR3] at hW
  have ht : W / 16777216 = 154 := by omega
  have hcl : decode_class.f W = some [13, 14, 15, 21, 22] := by unfold decode_class.f; rw [ht]; rfl
  refine ⟨⟨_, hcl, by decide⟩, ?_⟩
  have h0 : 0 ≤ W := by omega
  have h1 : W < 4294967296 := by omega
  show (14, bt W 0 5, bt W 5 5, bt W 16 5, 0, 0, 0, 0) = _
  rw [bt0_5 W h0 h1, bt5_5 W h0 h1, bt16_5 W h0 h1]
  have e5 : W / 32 = 81133824 + 1 * (rn) + 2048 * (rm) := by omega
  have e16 : W / 65536 = 39616 + 1 * (rm) := by omega
  simp only [Prod.mk.injEq]
  and_intros <;> first | trivial | omega
theorem said15 (rd rn rm ra imm shift cond W : Int) (h : encode_Encode.f 15 rd rn rm ra imm shift cond = some (W, 0)) : Said W 15 rd rn rm ra imm shift cond := by
  rw [enc15] at h
  split at h
  rotate_left
  · simp at h
  rename_i hc
  simp only [CR3] at hc
  have hW : VR3 _ rd rn rm ra imm shift cond = W := (Prod.mk.inj (Option.some.inj h)).1
  clear h
  simp only [VR3] at hW
  have ht : W / 16777216 = 154 := by omega
  have hcl : decode_class.f W = some [13, 14, 15, 21, 22] := by unfold decode_class.f; rw [ht]; rfl
  refine ⟨⟨_, hcl, by decide⟩, ?_⟩
  have h0 : 0 ≤ W := by omega
  have h1 : W < 4294967296 := by omega
  show (15, bt W 0 5, bt W 5 5, bt W 16 5, 0, 0, 0, 0) = _
  rw [bt0_5 W h0 h1, bt5_5 W h0 h1, bt16_5 W h0 h1]
  have e5 : W / 32 = 81133888 + 1 * (rn) + 2048 * (rm) := by omega
  have e16 : W / 65536 = 39616 + 1 * (rm) := by omega
  simp only [Prod.mk.injEq]
  and_intros <;> first | trivial | omega
theorem said16 (rd rn rm ra imm shift cond W : Int) (h : encode_Encode.f 16 rd rn rm ra imm shift cond = some (W, 0)) : Said W 16 rd rn rm ra imm shift cond := by
  rw [enc16] at h
  split at h
  rotate_left
  · simp at h
  rename_i hc
  simp only [CMV] at hc
  have hW : VMV _ rd rn rm ra imm shift cond = W := (Prod.mk.inj (Option.some.inj h)).1
  clear h
  simp only [VMV] at hW
  have ht : W / 16777216 = 210 := by omega
  have hcl : decode_class.f W = some [16] := by unfold decode_class.f; rw [ht]; rfl
  refine ⟨⟨_, hcl, by decide⟩, ?_⟩
  have h0 : 0 ≤ W := by omega
  have h1 : W < 4294967296 := by omega
  show (16, bt W 0 5, 0, 0, 0, bt W 5 16, bt W 21 2, 0) = _
  rw [bt0_5 W h0 h1, bt5_16 W h0 h1, bt21_2 W h0 h1]
  have e5 : W / 32 = 110362624 + 1 * (imm) + 65536 * (shift) := by omega
  have e21 : W / 2097152 = 1684 + 1 * (shift) := by omega
  simp only [Prod.mk.injEq]
  and_intros <;> first | trivial | omega
theorem said17 (rd rn rm ra imm shift cond W : Int) (h : encode_Encode.f 17 rd rn rm ra imm shift cond = some (W, 0)) : Said W 17 rd rn rm ra imm shift cond := by
  rw [enc17] at h
  split at h
  rotate_left
  · simp at h
  rename_i hc
  simp only [CMV] at hc
  have hW : VMV _ rd rn rm ra imm shift cond = W := (Prod.mk.inj (Option.some.inj h)).1
  clear h
  simp only [VMV] at hW
  have ht : W / 16777216 = 242 := by omega
  have hcl : decode_class.f W = some [17] := by unfold decode_class.f; rw [ht]; rfl
  refine ⟨⟨_, hcl, by decide⟩, ?_⟩
  have h0 : 0 ≤ W := by omega
  have h1 : W < 4294967296 := by omega
  show (17, bt W 0 5, 0, 0, 0, bt W 5 16, bt W 21 2, 0) = _
  rw [bt0_5 W h0 h1, bt5_16 W h0 h1, bt21_2 W h0 h1]
  have e5 : W / 32 = 127139840 + 1 * (imm) + 65536 * (shift) := by omega
  have e21 : W / 2097152 = 1940 + 1 * (shift) := by omega
  simp only [Prod.mk.injEq]
  and_intros <;> first | trivial | omega
theorem said18 (rd rn rm ra imm shift cond W : Int) (h : encode_Encode.f 18 rd rn rm ra imm shift cond = some (W, 0)) : Said W 18 rd rn rm ra imm shift cond := by
  rw [enc18] at h
  split at h
  rotate_left
  · simp at h
  rename_i hc
  simp only [CMV] at hc
  have hW : VMV _ rd rn rm ra imm shift cond = W := (Prod.mk.inj (Option.some.inj h)).1
  clear h
  simp only [VMV] at hW
  have ht : W / 16777216 = 146 := by omega
  have hcl : decode_class.f W = some [18] := by unfold decode_class.f; rw [ht]; rfl
  refine ⟨⟨_, hcl, by decide⟩, ?_⟩
  have h0 : 0 ≤ W := by omega
  have h1 : W < 4294967296 := by omega
  show (18, bt W 0 5, 0, 0, 0, bt W 5 16, bt W 21 2, 0) = _
  rw [bt0_5 W h0 h1, bt5_16 W h0 h1, bt21_2 W h0 h1]
  have e5 : W / 32 = 76808192 + 1 * (imm) + 65536 * (shift) := by omega
  have e21 : W / 2097152 = 1172 + 1 * (shift) := by omega
  simp only [Prod.mk.injEq]
  and_intros <;> first | trivial | omega
theorem said19 (rd rn rm ra imm shift cond W : Int) (h : encode_Encode.f 19 rd rn rm ra imm shift cond = some (W, 0)) : Said W 19 rd rn rm ra imm shift cond := by
  rw [enc19] at h
  split at h
  rotate_left
  · simp at h
  rename_i hc
  simp only [CRI] at hc
  have hW : VRI _ rd rn rm ra imm shift cond = W := (Prod.mk.inj (Option.some.inj h)).1
  clear h
  simp only [VRI] at hW
  have ht : W / 16777216 = 249 := by omega
  have hcl : decode_class.f W = some [19, 20] := by unfold decode_class.f; rw [ht]; rfl
  refine ⟨⟨_, hcl, by decide⟩, ?_⟩
  have h0 : 0 ≤ W := by omega
  have h1 : W < 4294967296 := by omega
  show (19, bt W 0 5, bt W 5 5, 0, 0, bt W 10 12, 0, 0) = _
  rw [bt0_5 W h0 h1, bt5_5 W h0 h1, bt10_12 W h0 h1]
  have e5 : W / 32 = 130678784 + 1 * (rn) + 32 * (imm) := by omega
  have e10 : W / 1024 = 4083712 + 1 * (imm) := by omega
  simp only [Prod.mk.injEq]
  and_intros <;> first | trivial | omega
theorem said20 (rd rn rm ra imm shift cond W : Int) (h : encode_Encode.f 20 rd rn rm ra imm shift cond = some (W, 0)) : Said W 20 rd rn rm ra imm shift cond := by
  rw [enc20] at h
  split at h
  rotate_left
  · simp at h
  rename_i hc
  simp only [CRI] at hc
  have hW : VRI _ rd rn rm ra imm shift cond = W := (Prod.mk.inj (Option.some.inj h)).1
  clear h
  simp only [VRI] at hW
  have ht : W / 16777216 = 249 := by omega
  have hcl : decode_class.f W = some [19, 20] := by unfold decode_class.f; rw [ht]; rfl
  refine ⟨⟨_, hcl, by decide⟩, ?_⟩
  have h0 : 0 ≤ W := by omega
  have h1 : W < 4294967296 := by omega
  show (20, bt W 0 5, bt W 5 5, 0, 0, bt W 10 12, 0, 0) = _
  rw [bt0_5 W h0 h1, bt5_5 W h0 h1, bt10_12 W h0 h1]
  have e5 : W / 32 = 130547712 + 1 * (rn) + 32 * (imm) := by omega
  have e10 : W / 1024 = 4079616 + 1 * (imm) := by omega
  simp only [Prod.mk.injEq]
  and_intros <;> first | trivial | omega
theorem said21 (rd rn rm ra imm shift cond W : Int) (h : encode_Encode.f 21 rd rn rm ra imm shift cond = some (W, 0)) : Said W 21 rd rn rm ra imm shift cond := by
  rw [enc21] at h
  split at h
  rotate_left
  · simp at h
  rename_i hc
  simp only [CCS] at hc
  have hW : VCS _ rd rn rm ra imm shift cond = W := (Prod.mk.inj (Option.some.inj h)).1
  clear h
  simp only [VCS] at hW
  have ht : W / 16777216 = 154 := by omega
  have hcl : decode_class.f W = some [13, 14, 15, 21, 22] := by unfold decode_class.f; rw [ht]; rfl
  refine ⟨⟨_, hcl, by decide⟩, ?_⟩
  have h0 : 0 ≤ W := by omega
  have h1 : W < 4294967296 := by omega
  show (21, bt W 0 5, bt W 5 5, bt W 16 5, 0, 0, 0, bt W 12 4) = _
  rw [bt0_5 W h0 h1, bt5_5 W h0 h1, bt16_5 W h0 h1, bt12_4 W h0 h1]
  have e5 : W / 32 = 81002496 + 1 * (rn) + 128 * (cond) + 2048 * (rm) := by omega
  have e12 : W / 4096 = 632832 + 1 * (cond) + 16 * (rm) := by omega
  have e16 : W / 65536 = 39552 + 1 * (rm) := by omega
  simp only [Prod.mk.injEq]
  and_intros <;> first | trivial | omega
theorem said22 (rd rn rm ra imm shift cond W : Int) (h : encode_Encode.f 22 rd rn rm ra imm shift cond = some (W, 0)) : Said W 22 rd rn rm ra imm shift cond := by
  rw [enc22] at h
  split at h
  rotate_left
  · simp at h
  rename_i hc
  simp only [CCS] at hc
  have hW : VCS _ rd rn rm ra imm shift cond = W := (Prod.mk.inj (Option.some.inj h)).1
  clear h
  simp only [VCS] at hW
  have ht : W / 16777216 = 154 := by omega
  have hcl : decode_class.f W = some [13, 14, 15, 21, 22] := by unfold decode_class.f; rw [ht]; rfl
  refine ⟨⟨_, hcl, by decide⟩, ?_⟩
  have h0 : 0 ≤ W := by omega
  have h1 : W < 4294967296 := by omega
  show (22, bt W 0 5, bt W 5 5, bt W 16 5, 0, 0, 0, bt W 12 4) = _
  rw [bt0_5 W h0 h1, bt5_5 W h0 h1, bt16_5 W h0 h1, bt12_4 W h0 h1]
  have e5 : W / 32 = 81002528 + 1 * (rn) + 128 * (cond) + 2048 * (rm) := by omega
  have e12 : W / 4096 = 632832 + 1 * (cond) + 16 * (rm) := by omega
  have e16 : W / 65536 = 39552 + 1 * (rm) := by omega
  simp only [Prod.mk.injEq]
  and_intros <;> first | trivial | omega
theorem said23 (rd rn rm ra imm shift cond W : Int) (h : encode_Encode.f 23 rd rn rm ra imm shift cond = some (W, 0)) : Said W 23 rd rn rm ra imm shift cond := by
  rw [enc23] at h
  split at h
  rotate_left
  · simp at h
  rename_i hc
  simp only [CBR] at hc
  have hW : VBR _ rd rn rm ra imm shift cond = W := (Prod.mk.inj (Option.some.inj h)).1
  clear h
  simp only [VBR] at hW
  have ht : 20 ≤ W / 16777216 ∧ W / 16777216 ≤ 23 := by omega
  have hcl : decode_class.f W = some [23, 24] := by
    unfold decode_class.f
    repeat rw [if_neg (by omega)]
  refine ⟨⟨_, hcl, by decide⟩, ?_⟩
  have h0 : 0 ≤ W := by omega
  have h1 : W < 4294967296 := by omega
  show (23, 0, 0, 0, 0, sg W 0 26, 0, 0) = _
  rw [sg0_26 W h0 h1]
  split <;> (simp only [Prod.mk.injEq]; and_intros <;> first | trivial | omega)
theorem said24 (rd rn rm ra imm shift cond W : Int) (h : encode_Encode.f 24 rd rn rm ra imm shift cond = some (W, 0)) : Said W 24 rd rn rm ra imm shift cond := by
  rw [enc24] at h
  split at h
  rotate_left
  · simp at h
  rename_i hc
  simp only [CBR] at hc
  have hW : VBR _ rd rn rm ra imm shift cond = W := (Prod.mk.inj (Option.some.inj h)).1
  clear h
  simp only [VBR] at hW
  have ht : 148 ≤ W / 16777216 ∧ W / 16777216 ≤ 151 := by omega
  have hcl : decode_class.f W = some [23, 24] := by
    unfold decode_class.f
    repeat rw [if_neg (by omega)]
  refine ⟨⟨_, hcl, by decide⟩, ?_⟩
  have h0 : 0 ≤ W := by omega
  have h1 : W < 4294967296 := by omega
  show (24, 0, 0, 0, 0, sg W 0 26, 0, 0) = _
  rw [sg0_26 W h0 h1]
  split <;> (simp only [Prod.mk.injEq]; and_intros <;> first | trivial | omega)
theorem said25 (rd rn rm ra imm shift cond W : Int) (h : encode_Encode.f 25 rd rn rm ra imm shift cond = some (W, 0)) : Said W 25 rd rn rm ra imm shift cond := by
  rw [enc25] at h
  split at h
  rotate_left
  · simp at h
  rename_i hc
  simp only [CWH] at hc
  have hW : VWH _ rd rn rm ra imm shift cond = W := (Prod.mk.inj (Option.some.inj h)).1
  clear h
  simp only [VWH] at hW
  have ht : W / 16777216 = 84 := by omega
  have hcl : decode_class.f W = some [25] := by unfold decode_class.f; rw [ht]; rfl
  refine ⟨⟨_, hcl, by decide⟩, ?_⟩
  have h0 : 0 ≤ W := by omega
  have h1 : W < 4294967296 := by omega
  show (25, 0, 0, 0, 0, sg W 5 19, 0, bt W 0 4) = _
  rw [sg5_19 W h0 h1, bt0_4 W h0 h1]
  have e5 : W / 32 = 44040192 + 1 * (imm % 524288) := by omega
  split <;> (simp only [Prod.mk.injEq]; and_intros <;> first | trivial | omega)
theorem said26 (rd rn rm ra imm shift cond W : Int) (h : encode_Encode.f 26 rd rn rm ra imm shift cond = some (W, 0)) : Said W 26 rd rn rm ra imm shift cond := by
  rw [enc26] at h
  split at h
  rotate_left
  · simp at h
  rename_i hc
  simp only [CZR] at hc
  have hW : VZR _ rd rn rm ra imm shift cond = W := (Prod.mk.inj (Option.some.inj h)).1
  clear h
  simp only [VZR] at hW
  have ht : W / 16777216 = 180 := by omega
  have hcl : decode_class.f W = some [26] := by unfold decode_class.f; rw [ht]; rfl
  refine ⟨⟨_, hcl, by decide⟩, ?_⟩
  have h0 : 0 ≤ W := by omega
  have h1 : W < 4294967296 := by omega
  show (26, bt W 0 5, 0, 0, 0, sg W 5 19, 0, 0) = _
  rw [bt0_5 W h0 h1, sg5_19 W h0 h1]
  have e5 : W / 32 = 94371840 + 1 * (imm % 524288) := by omega
  split <;> (simp only [Prod.mk.injEq]; and_intros <;> first | trivial | omega)
theorem said27 (rd rn rm ra imm shift cond W : Int) (h : encode_Encode.f 27 rd rn rm ra imm shift cond = some (W, 0)) : Said W 27 rd rn rm ra imm shift cond := by
  rw [enc27] at h
  split at h
  rotate_left
  · simp at h
  rename_i hc
  simp only [CZR] at hc
  have hW : VZR _ rd rn rm ra imm shift cond = W := (Prod.mk.inj (Option.some.inj h)).1
  clear h
  simp only [VZR] at hW
  have ht : W / 16777216 = 181 := by omega
  have hcl : decode_class.f W = some [27] := by unfold decode_class.f; rw [ht]; rfl
  refine ⟨⟨_, hcl, by decide⟩, ?_⟩
  have h0 : 0 ≤ W := by omega
  have h1 : W < 4294967296 := by omega
  show (27, bt W 0 5, 0, 0, 0, sg W 5 19, 0, 0) = _
  rw [bt0_5 W h0 h1, sg5_19 W h0 h1]
  have e5 : W / 32 = 94896128 + 1 * (imm % 524288) := by omega
  split <;> (simp only [Prod.mk.injEq]; and_intros <;> first | trivial | omega)
theorem said28 (rd rn rm ra imm shift cond W : Int) (h : encode_Encode.f 28 rd rn rm ra imm shift cond = some (W, 0)) : Said W 28 rd rn rm ra imm shift cond := by
  rw [enc28] at h
  split at h
  rotate_left
  · simp at h
  rename_i hc
  simp only [CRT] at hc
  have hW : VRT _ rd rn rm ra imm shift cond = W := (Prod.mk.inj (Option.some.inj h)).1
  clear h
  simp only [VRT] at hW
  have ht : W / 16777216 = 214 := by omega
  have hcl : decode_class.f W = some [28] := by unfold decode_class.f; rw [ht]; rfl
  refine ⟨⟨_, hcl, by decide⟩, ?_⟩
  have h0 : 0 ≤ W := by omega
  have h1 : W < 4294967296 := by omega
  show (28, 0, bt W 5 5, 0, 0, 0, 0, 0) = _
  rw [bt5_5 W h0 h1]
  have e5 : W / 32 = 112392192 + 1 * (rn) := by omega
  simp only [Prod.mk.injEq]
  and_intros <;> first | trivial | omega
theorem said29 (rd rn rm ra imm shift cond W : Int) (h : encode_Encode.f 29 rd rn rm ra imm shift cond = some (W, 0)) : Said W 29 rd rn rm ra imm shift cond := by
  rw [enc29] at h
  split at h
  rotate_left
  · simp at h
  rename_i hc
  simp only [CSV] at hc
  have hW : VSV _ rd rn rm ra imm shift cond = W := (Prod.mk.inj (Option.some.inj h)).1
  clear h
  simp only [VSV] at hW
  have ht : W / 16777216 = 212 := by omega
  have hcl : decode_class.f W = some [29, 30] := by unfold decode_class.f; rw [ht]; rfl
  refine ⟨⟨_, hcl, by decide⟩, ?_⟩
  have h0 : 0 ≤ W := by omega
  have h1 : W < 4294967296 := by omega
  show (29, 0, 0, 0, 0, bt W 5 16, 0, 0) = _
  rw [bt5_16 W h0 h1]
  have e5 : W / 32 = 111149056 + 1 * (imm) := by omega
  simp only [Prod.mk.injEq]
  and_intros <;> first | trivial | omega
theorem said30 (rd rn rm ra imm shift cond W : Int) (h : encode_Encode.f 30 rd rn rm ra imm shift cond = some (W, 0)) : Said W 30 rd rn rm ra imm shift cond := by
  rw [enc30] at h
  split at h
  rotate_left
  · simp at h
  rename_i hc
  simp only [CSV] at hc
  have hW : VSV _ rd rn rm ra imm shift cond = W := (Prod.mk.inj (Option.some.inj h)).1
  clear h
  simp only [VSV] at hW
  have ht : W / 16777216 = 212 := by omega
  have hcl : decode_class.f W = some [29, 30] := by unfold decode_class.f; rw [ht]; rfl
  refine ⟨⟨_, hcl, by decide⟩, ?_⟩
  have h0 : 0 ≤ W := by omega
  have h1 : W < 4294967296 := by omega
  show (30, 0, 0, 0, 0, bt W 5 16, 0, 0) = _
  rw [bt5_16 W h0 h1]
  have e5 : W / 32 = 111214592 + 1 * (imm) := by omega
  simp only [Prod.mk.injEq]
  and_intros <;> first | trivial | omega
theorem said31 (rd rn rm ra imm shift cond W : Int) (h : encode_Encode.f 31 rd rn rm ra imm shift cond = some (W, 0)) : Said W 31 rd rn rm ra imm shift cond := by
  rw [enc31] at h
  split at h
  rotate_left
  · simp at h
  rename_i hc
  simp only [CST] at hc
  have hW : VST _ rd rn rm ra imm shift cond = W := (Prod.mk.inj (Option.some.inj h)).1
  clear h
  simp only [VST] at hW
  have ht : W / 16777216 = 213 := by omega
  have hcl : decode_class.f W = some [31] := by unfold decode_class.f; rw [ht]; rfl
  refine ⟨⟨_, hcl, by decide⟩, ?_⟩
  have h0 : 0 ≤ W := by omega
  have h1 : W < 4294967296 := by omega
  show (31, 0, 0, 0, 0, 0, 0, 0) = _
  simp only [Prod.mk.injEq]
  and_intros <;> first | trivial | omega
theorem said (op rd rn rm ra imm shift cond W : Int) (h : encode_Encode.f op rd rn rm ra imm shift cond = some (W, 0)) : Said W op rd rn rm ra imm shift cond := by
  have ho := (enc_ok op rd rn rm ra imm shift cond W h)
  have h31 : op ≤ 31 := ho.2.o1
  have hc : op = 1 ∨ op = 2 ∨ op = 3 ∨ op = 4 ∨ op = 5 ∨ op = 6 ∨ op = 7 ∨ op = 8 ∨ op = 9 ∨ op = 10 ∨ op = 11 ∨ op = 12 ∨ op = 13 ∨ op = 14 ∨ op = 15 ∨ op = 16 ∨ op = 17 ∨ op = 18 ∨ op = 19 ∨ op = 20 ∨ op = 21 ∨ op = 22 ∨ op = 23 ∨ op = 24 ∨ op = 25 ∨ op = 26 ∨ op = 27 ∨ op = 28 ∨ op = 29 ∨ op = 30 ∨ op = 31 := by omega
  rcases hc with rfl | rfl | rfl | rfl | rfl | rfl | rfl | rfl | rfl | rfl | rfl | rfl | rfl | rfl | rfl | rfl | rfl | rfl | rfl | rfl | rfl | rfl | rfl | rfl | rfl | rfl | rfl | rfl | rfl | rfl | rfl
  · exact said1 _ _ _ _ _ _ _ _ h
  · exact said2 _ _ _ _ _ _ _ _ h
  · exact said3 _ _ _ _ _ _ _ _ h
  · exact said4 _ _ _ _ _ _ _ _ h
  · exact said5 _ _ _ _ _ _ _ _ h
  · exact said6 _ _ _ _ _ _ _ _ h
  · exact said7 _ _ _ _ _ _ _ _ h
  · exact said8 _ _ _ _ _ _ _ _ h
  · exact said9 _ _ _ _ _ _ _ _ h
  · exact said10 _ _ _ _ _ _ _ _ h
  · exact said11 _ _ _ _ _ _ _ _ h
  · exact said12 _ _ _ _ _ _ _ _ h
  · exact said13 _ _ _ _ _ _ _ _ h
  · exact said14 _ _ _ _ _ _ _ _ h
  · exact said15 _ _ _ _ _ _ _ _ h
  · exact said16 _ _ _ _ _ _ _ _ h
  · exact said17 _ _ _ _ _ _ _ _ h
  · exact said18 _ _ _ _ _ _ _ _ h
  · exact said19 _ _ _ _ _ _ _ _ h
  · exact said20 _ _ _ _ _ _ _ _ h
  · exact said21 _ _ _ _ _ _ _ _ h
  · exact said22 _ _ _ _ _ _ _ _ h
  · exact said23 _ _ _ _ _ _ _ _ h
  · exact said24 _ _ _ _ _ _ _ _ h
  · exact said25 _ _ _ _ _ _ _ _ h
  · exact said26 _ _ _ _ _ _ _ _ h
  · exact said27 _ _ _ _ _ _ _ _ h
  · exact said28 _ _ _ _ _ _ _ _ h
  · exact said29 _ _ _ _ _ _ _ _ h
  · exact said30 _ _ _ _ _ _ _ _ h
  · exact said31 _ _ _ _ _ _ _ _ h
theorem l0_found (W op : Int) (x : Ins) (hg : gs W op = (x.f0, x.f1, x.f2, x.f3, x.f4, x.f5, x.f6, x.f7)) (he : encode_Encode.f x.f0 x.f1 x.f2 x.f3 x.f4 x.f5 x.f6 x.f7 = some (W, 0)) (L : List Int) (hL : L.length < 1000) (hr : ∀ x ∈ L, 1 ≤ x ∧ x ≤ 31) : ∀ (n k i : Nat), i + n = L.length → op ∈ L.drop i → ∃ r, decode_Decode.l0 (n + 9 + k) W L (L.length : Int) (i : Int) = some r ∧ r.2.2.2.2.2.2.2.2 = 0
  | 0, k, i, hi, hm => by
    rw [List.drop_eq_nil_of_le (by omega)] at hm
    exact absurd hm List.not_mem_nil
  | n + 1, k, i, hi, hm => by
    have hlt : i < L.length := by omega
    have hrd : rd L (i : Int) = L[i] := by
      unfold rd
      rw [Int.toNat_natCast, List.getD_eq_getElem?_getD, List.getElem?_eq_getElem hlt]
      rfl
    have hmem := hr _ (List.getElem_mem hlt)
    have hx := guess_tot W L[i] hmem.1 hmem.2
    have hw : wrap64 ((i : Int) + 1) = ((i + 1 : Nat) : Int) := by unfold wrap64; omega
    rw [show n + 1 + 9 + k = (n + 9 + k) + 1 by omega, decode_Decode.l0, if_pos (by omega), if_pos (by omega), if_pos (by omega), hrd, hx, Option.bind_some]
    rw [List.drop_eq_getElem_cons hlt, List.mem_cons] at hm
    rcases hm with hm | hm
    · rw [← hm, hg, he, Option.bind_some, if_pos rfl, if_pos rfl]
      exact ⟨_, rfl, rfl⟩
    · obtain ⟨r, hr1, hr2⟩ := l0_found W op x hg he L hL hr n k (i + 1) (by omega) hm
      rcases enc_tot (gs W L[i]).1 (gs W L[i]).2.1 (gs W L[i]).2.2.1 (gs W L[i]).2.2.2.1 (gs W L[i]).2.2.2.2.1 (gs W L[i]).2.2.2.2.2.1 (gs W L[i]).2.2.2.2.2.2.1 (gs W L[i]).2.2.2.2.2.2.2 with he2 | ⟨V, he2⟩
      · rw [he2, Option.bind_some, if_neg (by decide), hw]
        exact ⟨r, hr1, hr2⟩
      · rw [he2, Option.bind_some, if_pos rfl]
        split
        · exact ⟨_, rfl, rfl⟩
        · rw [hw]
          exact ⟨r, hr1, hr2⟩
theorem dcd_enc (x : Ins) (W : Int) (h : encode_Encode.f x.f0 x.f1 x.f2 x.f3 x.f4 x.f5 x.f6 x.f7 = some (W, 0)) : dcd W = (x, 0) := by
  obtain ⟨⟨L, hL, hm⟩, hg⟩ := said _ _ _ _ _ _ _ _ _ h
  obtain ⟨L', hL', hl, hr⟩ := class_len W
  rw [hL] at hL'
  obtain rfl := Option.some.inj hL'
  obtain ⟨r, h1, h2⟩ := l0_found W x.f0 x hg h L (by omega) hr L.length (11 - L.length) 0 (by omega) hm
  have hd : (dcd W).2 = 0 := by
    unfold dcd decode_Decode.f
    rw [hL, Option.bind_some, show (20 : Nat) = L.length + 9 + (11 - L.length) by omega, show (0 : Int) = ((0 : Nat) : Int) from rfl, h1]
    exact h2
  rcases dcd_is W with ⟨_, h3⟩ | ⟨_, h3⟩
  · rw [hd] at h3
    exact absurd h3 (by decide)
  · rcases enc_dec x.f0 x.f1 x.f2 x.f3 x.f4 x.f5 x.f6 x.f7 with e | ⟨V, e, d1⟩
    · rw [h] at e
      exact absurd (Prod.mk.inj (Option.some.inj e)).2 (by decide)
    rcases enc_dec (dcd W).1.f0 (dcd W).1.f1 (dcd W).1.f2 (dcd W).1.f3 (dcd W).1.f4 (dcd W).1.f5 (dcd W).1.f6 (dcd W).1.f7 with e2 | ⟨V2, e2, d2⟩
    · rw [h3] at e2
      exact absurd (Prod.mk.inj (Option.some.inj e2)).2 (by decide)
    rw [h] at e
    rw [h3] at e2
    have w1 := (Prod.mk.inj (Option.some.inj e)).1
    have w2 := (Prod.mk.inj (Option.some.inj e2)).1
    rw [← w1] at d1
    rw [← w2] at d2
    exact Prod.ext (d2.symm.trans d1) hd
end Go.Proofs.Ytjhgbddcenhkfaa.P
