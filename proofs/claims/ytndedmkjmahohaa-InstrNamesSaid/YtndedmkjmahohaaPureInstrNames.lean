/- Each op is found by its name, and no two have the same: the plain part. -/
import Derived.Test.YtndedmkjmahohaaQInstrNames
set_option linter.unusedSimpArgs false
set_option linter.unusedVariables false
namespace Go.Proofs.Ytndedmkjmahohaa.Pure
open Go.RowKit Go.Proofs.Ytndedmkjmahohaa.P Go.Proofs.YtndedmkjmahohaaW.PrintWords Go.Proofs.YtndedmkjmahohaaW.PrintLast Go.Proofs.YtndedmkjmahohaaW.PrintMore
def nm (a : Int) : ByteArray := (instr_Name.f a).getD ⟨#[]⟩
def kn : List Nat := List.range 39 ++ [48, 49, 50]
def Kn (a : Int) : Prop := (0 ≤ a ∧ a ≤ 38) ∨ (48 ≤ a ∧ a ≤ 50)
instance (a : Int) : Decidable (Kn a) := by unfold Kn; infer_instance
theorem kn_mem (i : Nat) (h : Kn i) : i ∈ kn := by
  unfold Kn at h
  unfold kn
  rw [List.mem_append, List.mem_range]
  simp
  omega
theorem names_in : (kn.all fun a => (instr_Name.f a).isSome && !(nm a).toList.isEmpty && (instr_Named.f 200 (nm a) == some ((a : Int), true))) = true := by kernel_rfl
theorem names_apart : (kn.all fun a => kn.all fun b => ((nm a).toList == (nm b).toList) == (a == b)) = true := by kernel_rfl
theorem name_in (a : Int) (hk : Kn a) : instr_Name.f a = some (nm a) ∧ (nm a).toList.isEmpty = false ∧ instr_Named.f 200 (nm a) = some (a, true) := by
  obtain ⟨i, rfl⟩ := Int.eq_ofNat_of_zero_le (show 0 ≤ a by unfold Kn at hk; omega)
  have h := List.all_eq_true.mp names_in i (kn_mem i hk)
  simp only [Bool.and_eq_true, Bool.not_eq_true', beq_iff_eq] at h
  obtain ⟨⟨h2, h3⟩, h4⟩ := h
  obtain ⟨s, hs⟩ := Option.isSome_iff_exists.mp h2
  refine ⟨?_, h3, h4⟩
  unfold nm
  rw [hs]
  rfl
theorem name_out (a : Int) (h : ¬ Kn a) : instr_Name.f a = some (⟨#[]⟩ : ByteArray) := by
  unfold Kn at h
  have hr : instr_reckons.f a = some (⟨#[]⟩ : ByteArray) := by
    unfold instr_reckons.f
    repeat' first
      | rw [if_neg (by omega)]
      | rw [instr_reckons.j0]
      | rfl
  unfold instr_Name.f
  repeat' first
    | rw [if_neg (by omega)]
  rw [hr]
  rfl
theorem named_none : instr_Named.f 200 (⟨#[]⟩ : ByteArray) = some (0, false) := by kernel_rfl
theorem known_in (a : Int) (hk : Kn a) : instr_Known.f a = some true := by
  obtain ⟨h2, h3, _⟩ := name_in a hk
  unfold instr_Known.f
  rw [h2]
  simp only [Option.bind_some, h3, Bool.not_false]
theorem known_out (a : Int) (h : ¬ Kn a) : instr_Known.f a = some false := by
  unfold instr_Known.f
  rw [name_out a h]
  kernel_rfl
theorem lives_names : pianolalaw05_lives.f = some true := rfl
theorem InstrNames : Q.InstrNames := by
  intro a b _ _
  refine ⟨200, ?_⟩
  unfold pianolalaw05_InstrNames.f
  rw [lives_names]
  simp only [Option.bind_some, if_true]
  by_cases ha : Kn a
  · obtain ⟨h2, h3, h4⟩ := name_in a ha
    rw [h2]
    simp only [Option.bind_some]
    rw [h4, known_in a ha]
    simp only [Option.bind_some, bne_self_eq_false, Bool.false_eq_true, if_false, if_true]
    rw [pianolalaw05_InstrNames.j0, known_in a ha]
    simp only [Option.bind_some, Bool.false_eq_true, if_false, if_true]
    by_cases hb : Kn b
    · rw [known_in b hb]
      simp only [Option.bind_some, if_true]
      obtain ⟨g2, _, _⟩ := name_in b hb
      rw [h2, g2]
      simp only [Option.bind_some]
      obtain ⟨i, rfl⟩ := Int.eq_ofNat_of_zero_le (show 0 ≤ a by unfold Kn at ha; omega)
      obtain ⟨j, rfl⟩ := Int.eq_ofNat_of_zero_le (show 0 ≤ b by unfold Kn at hb; omega)
      have h := List.all_eq_true.mp (List.all_eq_true.mp names_apart i (kn_mem i ha)) j (kn_mem j hb)
      have e : (((i : Nat) : Int) == ((j : Nat) : Int)) = (i == j) := by
        by_cases c : i = j
        · subst c; simp
        · rw [beq_eq_false_iff_ne.mpr c, beq_eq_false_iff_ne.mpr (by omega)]
      rw [e]
      exact congrArg some h
    · rw [known_out b hb]
      rfl
  · rw [name_out a ha]
    simp only [Option.bind_some]
    rw [named_none, known_out a ha]
    simp only [Option.bind_some, bne_self_eq_false, Bool.false_eq_true, if_false]
    rw [pianolalaw05_InstrNames.j0, known_out a ha]
    rfl
end Go.Proofs.Ytndedmkjmahohaa.Pure
