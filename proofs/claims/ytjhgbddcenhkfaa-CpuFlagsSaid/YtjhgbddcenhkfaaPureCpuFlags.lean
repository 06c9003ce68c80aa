/- The difference of any numbers with its flags: the plain part. -/
import Derived.Test.YtjhgbddcenhkfaaQCpuFlags
import Derived.Test.YtjhgbddcenhkfaaCpuK
set_option linter.unusedSectionVars false
namespace Go.Proofs.Ytjhgbddcenhkfaa.Pure
open Go.RowKit Go.Proofs.Ytjhgbddcenhkfaa.P Go.Proofs.YtjhgbddcenhkfaaW.PrintWords Go.Proofs.YtjhgbddcenhkfaaW.PrintLast
theorem hold0 : ∀ (N Z C V : Bool), cpu_Holds.f 6 0 N Z C V = some Z := by decide +kernel
theorem hold11 : ∀ (N Z C V : Bool), cpu_Holds.f 6 11 N Z C V = some (N != V) := by decide +kernel
theorem hold13 : ∀ (N Z C V : Bool), cpu_Holds.f 6 13 N Z C V = some ((N != V) || Z) := by decide +kernel
theorem hold3 : ∀ (N Z C V : Bool), cpu_Holds.f 6 3 N Z C V = some (!C) := by decide +kernel
theorem hold8 : ∀ (N Z C V : Bool), cpu_Holds.f 6 8 N Z C V = some (C && !Z) := by decide +kernel
section
variable (a b : Int) (ha : -9223372036854775808 ≤ a) (ha1 : a < 9223372036854775808) (hb : -9223372036854775808 ≤ b) (hb1 : b < 9223372036854775808)
include ha ha1 hb hb1
theorem lt_is : (decide (wrap64 (a - b) < 0) != ((decide (a < 0) ^^ decide (b < 0)) && (decide (a < 0) ^^ decide (wrap64 (a - b) < 0)))) = decide (a < b) := by
  obtain ⟨d, hd⟩ : ∃ d, d = wrap64 (a - b) := ⟨_, rfl⟩
  have hdd : (d = a - b ∨ d = a - b - 18446744073709551616 ∨ d = a - b + 18446744073709551616) ∧ -9223372036854775808 ≤ d ∧ d < 9223372036854775808 := by unfold wrap64 at hd; omega
  rw [← hd]
  clear hd
  by_cases h1 : a < 0 <;> by_cases h2 : b < 0 <;> by_cases h3 : d < 0 <;> by_cases h4 : a < b <;> simp only [h1, h2, h3, h4, decide_true, decide_false] <;> first | rfl | (exfalso; omega)
theorem le_is : (decide (a < b) || (a == b)) = decide (a ≤ b) := by
  have e : (a == b) = decide (a = b) := rfl
  rw [e]
  rw [Bool.eq_iff_iff, Bool.or_eq_true, decide_eq_true_eq, decide_eq_true_eq, decide_eq_true_eq]
  omega
theorem gt_is : (decide (IntKind.u64.wrap a ≥ IntKind.u64.wrap b) && !(a == b)) = decide (IntKind.u64.wrap a > IntKind.u64.wrap b) := by
  have e : IntKind.u64.wrap a = IntKind.u64.wrap b → a = b := by
    rw [IntKind.wrap_u64, IntKind.wrap_u64]
    omega
  by_cases h1 : a = b
  · subst h1
    simp
  · have h2 : ¬ IntKind.u64.wrap a = IntKind.u64.wrap b := fun h => h1 (e h)
    have h3 : (a == b) = false := by simpa using h1
    rw [h3, Bool.not_false, Bool.and_true]
    apply decide_eq_decide.mpr
    omega
end
theorem CpuFlags : Q.CpuFlags := by
  intro a b c f ha hb hc _
  have hA : -9223372036854775808 ≤ a ∧ a < 9223372036854775808 := by
    simp [Lit.wf, IntKind.min, IntKind.max, IntKind.bits, IntKind.signed] at ha
    omega
  have hB : -9223372036854775808 ≤ b ∧ b < 9223372036854775808 := by
    simp [Lit.wf, IntKind.min, IntKind.max, IntKind.bits, IntKind.signed] at hb
    omega
  refine ⟨7, ?_⟩
  obtain ⟨r, h1, h2⟩ := holds_is c f.f0 f.f1 f.f2 f.f3
  have h1' : cpu_Holds.f 7 c f.f0 f.f1 f.f2 f.f3 = some r := cpu_Holds.mono _ _ _ _ _ 6 r h1
  have hl : pianolalaw14_lives.f = some true := rfl
  unfold pianolalaw14_CpuFlags.f
  rw [ref_less a b hA.1 hA.2 hB.1 hB.2, less_is a b hA.1 hA.2 hB.1 hB.2]
  simp only [Option.bind_some]
  rw [hl, Option.bind_some, if_pos rfl, if_pos trivial, if_neg (by simp)]
  rw [h1', h2]
  simp only [Option.bind_some]
  rw [pianolalaw14_CpuFlags.j0, if_neg (by simp)]
  rw [hold0, Option.bind_some, if_pos (by simp)]
  rw [hold11, Option.bind_some, lt_is a b hA.1 hA.2 hB.1 hB.2, if_pos (by simp)]
  rw [hold13, Option.bind_some, lt_is a b hA.1 hA.2 hB.1 hB.2, le_is a b hA.1 hA.2 hB.1 hB.2, if_pos (by simp)]
  rw [hold3, Option.bind_some, if_pos (by rw [beq_iff_eq, Bool.eq_iff_iff]; simp)]
  rw [hold8, Option.bind_some, gt_is a b hA.1 hA.2 hB.1 hB.2]
  simp
end Go.Proofs.Ytjhgbddcenhkfaa.Pure
