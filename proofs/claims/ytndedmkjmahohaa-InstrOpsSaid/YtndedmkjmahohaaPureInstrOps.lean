/- What any op is, takes and gives, and its name: the plain part. -/
import Derived.Test.YtndedmkjmahohaaQInstrOps
set_option linter.unusedSimpArgs false
set_option linter.unusedVariables false
namespace Go.Proofs.Ytndedmkjmahohaa.Pure
open Go.RowKit Go.Proofs.Ytndedmkjmahohaa.P Go.Proofs.YtndedmkjmahohaaW.PrintWords Go.Proofs.YtndedmkjmahohaaW.PrintLast Go.Proofs.YtndedmkjmahohaaW.PrintMore
def nmO (a : Int) : ByteArray := (instr_Name.f a).getD ⟨#[]⟩
def stO (a : Int) : ByteArray × ByteArray := (pianolaref05_Stack.f 300 a).getD (⟨#[]⟩, ⟨#[]⟩)
theorem ops_in : ((List.range 51).all fun a => (pianolaref05_Stack.f 300 (a : Int)).isSome && (pianolalaw05_InstrOps.l0 249 (a : Int) ⟨#[97]⟩ (stO a).1 (stO a).2 0 false 0 false 51 == some true)) = true := by kernel_rfl
theorem refs_in : ((List.range 51).all fun a => ((pianolaref05_Name.f (299 - a) (a : Int)).map ByteArray.toList == some (nmO a).toList) && (instr_Name.f (a : Int)).isSome) = true := by kernel_rfl
theorem apart_in : ((List.range 51).all fun a => (List.range 51).all fun b => a == b || (nmO a).toList.isEmpty || !((nmO a).toList == (nmO b).toList)) = true := by kernel_rfl
/-- The tail speaks of the two findings only so far as whether they are the same. -/
theorem tail_same (x0 : Int) (x1 y1 x5 x6 : ByteArray) (a : Int) (b : Bool) : pianolalaw05_InstrOps.l0 249 x0 x1 x5 x6 a b a b 51 = pianolalaw05_InstrOps.l0 249 x0 y1 x5 x6 0 false 0 false 51 := by
  rw [pianolalaw05_InstrOps.l0, if_neg (show ¬ (51 : Int) < 51 by decide)]
  symm
  rw [pianolalaw05_InstrOps.l0, if_neg (show ¬ (51 : Int) < 51 by decide)]
  simp only [eq_self_iff_true, if_true, beq_self_eq_true]
theorem name_outO (a : Int) (h : a < 0 ∨ 50 < a) : instr_Name.f a = some (⟨#[]⟩ : ByteArray) := by
  have hr : instr_reckons.f a = some (⟨#[]⟩ : ByteArray) := by
    unfold instr_reckons.f
    repeat' first
      | rw [if_neg (by omega)]
      | rfl
  unfold instr_Name.f
  repeat' first
    | rw [if_neg (by omega)]
  rw [hr]
  rfl
theorem known_outO (a : Int) (h : a < 0 ∨ 50 < a) : instr_Known.f a = some false := by
  unfold instr_Known.f
  rw [name_outO a h]
  kernel_rfl
theorem ref_name_out (k : Nat) (a : Int) (h : a < 0 ∨ 50 < a) : pianolaref05_Name.f (k + 1) a = some (⟨#[]⟩ : ByteArray) := by
  unfold pianolaref05_Name.f
  simp only [Option.bind_some]
  by_cases c : a ≥ 0
  · rw [if_pos c, pianolaref05_Name.j0, if_neg (by simp; omega), if_neg (by omega), if_neg (by omega), if_neg (by omega)]
  · rw [if_neg c, pianolaref05_Name.j0, if_neg (by decide), if_neg (by omega), if_neg (by omega), if_neg (by omega)]
theorem ref_known_out (k : Nat) (a : Int) (h : a < 0 ∨ 50 < a) : pianolaref05_Known.f (k + 1) a = some false := by
  unfold pianolaref05_Known.f
  rw [ref_name_out k a h]
  kernel_rfl
theorem pure_out (a : Int) (h : a < 0 ∨ 50 < a) : instr_Pure.f a = some false := by
  unfold instr_Pure.f
  rw [known_outO a h]
  rfl
theorem size_out (k : Nat) (a : Int) (h : a < 0 ∨ 50 < a) : instr_Size.f (k + 2) a = some 0 := by
  unfold instr_Size.f
  rw [if_neg (by omega), if_neg (by omega), instr_Size.j0, if_neg (by simp; omega), if_neg (by omega), if_neg (by omega), if_neg (by omega), instr_Size.j1, if_neg (by simp; omega), known_outO a h]
  rfl
theorem ref_size_out (k : Nat) (a : Int) (h : a < 0 ∨ 50 < a) : pianolaref05_Size.f (k + 1) a = some 0 := by
  unfold pianolaref05_Size.f
  rw [ref_known_out k a h]
  rfl
theorem effect_out (k : Nat) (a : Int) (h : a < 0 ∨ 50 < a) : instr_effect.f (k + 6) a = some ((⟨#[]⟩ : ByteArray), (⟨#[]⟩ : ByteArray)) := by
  unfold instr_effect.f
  iterate 6 rw [if_neg (by omega)]
  rw [instr_effect.j0, if_neg (by simp; omega), if_neg (by omega), instr_effect.j1, if_neg (by simp; omega)]
  iterate 13 (try rw [if_neg (by omega)])
  rw [instr_effect.j2, if_neg (by simp; omega), if_neg (by omega), if_neg (by omega), instr_effect.j3, if_neg (by simp; omega), if_neg (by omega), if_neg (by omega), if_neg (by omega), instr_effect.j4, if_neg (by simp; omega), if_neg (by omega), if_neg (by omega), instr_effect.j5, if_neg (by simp; omega)]
  iterate 6 rw [if_neg (by omega)]
theorem stack_out (k : Nat) (a : Int) (h : a < 0 ∨ 50 < a) : pianolaref05_Stack.f (k + 6) a = some ((⟨#[]⟩ : ByteArray), (⟨#[]⟩ : ByteArray)) := by
  unfold pianolaref05_Stack.f
  iterate 4 rw [if_neg (by omega)]
  have j5 : pianolaref05_Stack.j5 (k + 1) a (a == 26) = some ((⟨#[]⟩ : ByteArray), (⟨#[]⟩ : ByteArray)) := by
    rw [pianolaref05_Stack.j5, if_neg (by simp; omega)]
    iterate 6 rw [if_neg (by omega)]
  have j4 : pianolaref05_Stack.j4 (k + 2) a false = some ((⟨#[]⟩ : ByteArray), (⟨#[]⟩ : ByteArray)) := by
    rw [pianolaref05_Stack.j4, if_neg (by decide), if_neg (by omega), if_neg (by omega), j5]
  have j3 : pianolaref05_Stack.j3 (k + 3) a (a == 33) = some ((⟨#[]⟩ : ByteArray), (⟨#[]⟩ : ByteArray)) := by
    rw [pianolaref05_Stack.j3, if_neg (by simp; omega)]
    by_cases c : a ≥ 20
    · rw [if_pos c, show decide (a ≤ 23) = false from decide_eq_false (by omega), j4]
    · rw [if_neg c, j4]
  have j2 : pianolaref05_Stack.j2 (k + 4) a false = some ((⟨#[]⟩ : ByteArray), (⟨#[]⟩ : ByteArray)) := by
    rw [pianolaref05_Stack.j2, if_neg (by decide), if_neg (by omega), if_neg (by omega), j3]
  have j1 : pianolaref05_Stack.j1 (k + 5) a (a == 32) = some ((⟨#[]⟩ : ByteArray), (⟨#[]⟩ : ByteArray)) := by
    rw [pianolaref05_Stack.j1, if_neg (by simp; omega), if_neg (by omega), if_neg (by omega), if_neg (by omega)]
    by_cases c : a ≥ 8
    · rw [if_pos c, show decide (a ≤ 17) = false from decide_eq_false (by omega), j2]
    · rw [if_neg c, j2]
  have j0 : pianolaref05_Stack.j0 (k + 6) a false = some ((⟨#[]⟩ : ByteArray), (⟨#[]⟩ : ByteArray)) := by
    rw [pianolaref05_Stack.j0, if_neg (by decide), if_neg (by omega), j1]
  by_cases c : a ≥ 48
  · rw [if_pos c, show decide (a ≤ 50) = false from decide_eq_false (by omega), j0]
  · rw [if_neg c, j0]
theorem kinds_nil : instr_kinds.f (⟨#[]⟩ : ByteArray) = some [] := by kernel_rfl
theorem takes_out (k : Nat) (a : Int) (h : a < 0 ∨ 50 < a) : instr_Takes.f (k + 6) a = some [] := by
  unfold instr_Takes.f
  rw [effect_out k a h]
  simp only [Option.bind_some]
  rw [kinds_nil]
  rfl
theorem gives_out (k : Nat) (a : Int) (h : a < 0 ∨ 50 < a) : instr_Gives.f (k + 6) a = some [] := by
  unfold instr_Gives.f
  rw [effect_out k a h]
  simp only [Option.bind_some]
  rw [kinds_nil]
  rfl
theorem same_nil : pianolalaw05_sameKinds.f 248 [] (⟨#[]⟩ : ByteArray) = some true := by kernel_rfl
theorem livesO : pianolalaw05_lives.f = some true := rfl
theorem tail_out (a : Int) (h : a < 0 ∨ 50 < a) : pianolalaw05_InstrOps.l0 249 a ⟨#[]⟩ ⟨#[]⟩ ⟨#[]⟩ 0 false 0 false 51 = some true := by
  rw [pianolalaw05_InstrOps.l0, if_neg (show ¬ (51 : Int) < 51 by decide), livesO, known_outO a h, ref_known_out 247 a h, pure_out a h]
  simp only [Option.bind_some, if_true, beq_self_eq_true, Bool.false_eq_true, if_false]
  rw [size_out 246 a h, ref_size_out 247 a h]
  simp only [Option.bind_some, if_true]
  rw [name_outO a h, ref_name_out 247 a h]
  simp only [Option.bind_some, if_true]
  rw [takes_out 242 a h, gives_out 242 a h]
  simp only [Option.bind_some]
  rw [same_nil]
  simp only [Option.bind_some, if_true]
theorem name_inO (i : Nat) (h : i < 51) : instr_Name.f (i : Int) = some (nmO i) := by
  have h := List.all_eq_true.mp refs_in i (List.mem_range.mpr h)
  simp only [Bool.and_eq_true] at h
  obtain ⟨s, hs⟩ := Option.isSome_iff_exists.mp h.2
  unfold nmO
  rw [hs]
  rfl
theorem ref_name_in (i : Nat) (h : i < 51) : ∃ s, pianolaref05_Name.f (299 - i) (i : Int) = some s ∧ s.toList = (nmO i).toList := by
  have h := List.all_eq_true.mp refs_in i (List.mem_range.mpr h)
  simp only [Bool.and_eq_true, beq_iff_eq] at h
  obtain ⟨s, hs, h2⟩ := Option.map_eq_some_iff.mp h.1
  exact ⟨s, hs, h2⟩
def fnd (L : List UInt8) : Nat → Nat → Int × Bool
  | 0, _ => (0, false)
  | d + 1, i => if (nmO i).toList = L then ((i : Int), true) else fnd L d (i + 1)
def lst (L : List UInt8) : Nat → Nat → Int × Bool → Int × Bool
  | 0, _, a => a
  | d + 1, i, a => if (nmO i).toList = L then lst L d (i + 1) ((i : Int), true) else lst L d (i + 1) a
theorem lst_none (L : List UInt8) : ∀ (d i : Nat) (a : Int × Bool), i + d = 51 → (∀ j, i ≤ j → j < 51 → ¬ (nmO j).toList = L) → lst L d i a = a
  | 0, _, _, _, _ => rfl
  | d + 1, i, a, hi, h => by
    rw [lst, if_neg (h i (Nat.le_refl _) (by omega))]
    exact lst_none L d (i + 1) a (by omega) (fun j h1 h2 => h j (by omega) h2)
theorem lst_fnd (L : List UInt8) (hL : L ≠ []) : ∀ (d i : Nat), i + d = 51 → lst L d i (0, false) = fnd L d i
  | 0, _, _ => rfl
  | d + 1, i, hi => by
    rw [lst, fnd]
    by_cases c : (nmO i).toList = L
    · rw [if_pos c, if_pos c]
      refine lst_none L d (i + 1) _ (by omega) (fun j h1 h2 e => ?_)
      have h := List.all_eq_true.mp (List.all_eq_true.mp apart_in i (List.mem_range.mpr (by omega))) j (List.mem_range.mpr h2)
      rw [c, e] at h
      have e1 : (i == j) = false := beq_eq_false_iff_ne.mpr (by omega)
      rw [e1] at h
      cases L with
      | nil => exact hL rfl
      | cons x l => simp at h
    · rw [if_neg c, if_neg c]
      exact lst_fnd L hL d (i + 1) (by omega)
theorem wrap_i (i : Nat) (h : i < 51) : wrap64 ((i : Int) + 1) = ((i + 1 : Nat) : Int) := by unfold wrap64; omega
theorem named_run (x : ByteArray) (hx : x.toList ≠ []) : ∀ (d i k : Nat), i + d = 51 → 2 * d + 2 ≤ k → instr_Named.l0 k x (i : Int) = some (fnd x.toList d i)
  | 0, i, k, hi, hk => by
    obtain ⟨k, rfl⟩ : ∃ m, k = m + 1 + 1 := ⟨k - 2, by omega⟩
    rw [instr_Named.l0, if_neg (by omega), instr_Named.j1, if_neg (by decide)]
    rfl
  | d + 1, i, k, hi, hk => by
    obtain ⟨k, rfl⟩ : ∃ m, k = m + 1 + 1 := ⟨k - 2, by omega⟩
    have he : (!x.toList.isEmpty) = true := by
      cases h : x.toList with
      | nil => exact absurd h hx
      | cons a l => rfl
    rw [instr_Named.l0, if_pos (by omega), he, instr_Named.j1, if_pos rfl, name_inO i (by omega)]
    simp only [Option.bind_some]
    rw [fnd]
    by_cases c : (nmO i).toList = x.toList
    · rw [if_pos c, if_pos c]
    · rw [if_neg c, if_neg c, wrap_i i (by omega)]
      exact named_run x hx d (i + 1) k (by omega) (by omega)
theorem ops_run (x0 : Int) (x x5 x6 : ByteArray) (x7 : Int) (x8 : Bool) (hx : x.toList ≠ []) : ∀ (d i : Nat) (a : Int × Bool), i + d = 51 →
    pianolalaw05_InstrOps.l0 (249 + d) x0 x x5 x6 x7 x8 a.1 a.2 (i : Int) = pianolalaw05_InstrOps.l0 249 x0 x x5 x6 x7 x8 (lst x.toList d i a).1 (lst x.toList d i a).2 51
  | 0, i, a, hi => by
    obtain rfl : i = 51 := by omega
    rfl
  | d + 1, i, a, hi => by
    obtain ⟨s, h1, h2⟩ := ref_name_in i (by omega)
    rw [show 249 + (d + 1) = (249 + d) + 1 from rfl, pianolalaw05_InstrOps.l0, if_pos (by omega), if_neg hx, show 249 + d = 299 - i from by omega, h1]
    simp only [Option.bind_some]
    rw [h2, wrap_i i (by omega), show 299 - i = 249 + d from by omega, lst]
    by_cases c : (nmO i).toList = x.toList
    · rw [if_pos c, if_pos c]
      exact ops_run x0 x x5 x6 x7 x8 hx d (i + 1) ((i : Int), true) (by omega)
    · rw [if_neg c, if_neg c]
      exact ops_run x0 x x5 x6 x7 x8 hx d (i + 1) a (by omega)
theorem ops_skip (x0 : Int) (x x5 x6 : ByteArray) (x7 : Int) (x8 : Bool) (hx : x.toList = []) : ∀ (d i : Nat) (a : Int) (b : Bool), i + d = 51 →
    pianolalaw05_InstrOps.l0 (249 + d) x0 x x5 x6 x7 x8 a b (i : Int) = pianolalaw05_InstrOps.l0 249 x0 x x5 x6 x7 x8 a b 51
  | 0, i, a, b, hi => by
    obtain rfl : i = 51 := by omega
    rfl
  | d + 1, i, a, b, hi => by
    rw [show 249 + (d + 1) = (249 + d) + 1 from rfl, pianolalaw05_InstrOps.l0, if_pos (by omega), if_pos hx, wrap_i i (by omega)]
    exact ops_skip x0 x x5 x6 x7 x8 hx d (i + 1) a b (by omega)
theorem tail_any (x0 : Int) (x : ByteArray) (a : Int) (b : Bool) : ∃ s t, pianolaref05_Stack.f 300 x0 = some (s, t) ∧ pianolalaw05_InstrOps.l0 249 x0 x s t a b a b 51 = some true := by
  by_cases h : x0 < 0 ∨ 50 < x0
  · exact ⟨_, _, stack_out 294 x0 h, (tail_same x0 x ⟨#[]⟩ _ _ a b).trans (tail_out x0 h)⟩
  · obtain ⟨i, rfl⟩ := Int.eq_ofNat_of_zero_le (show 0 ≤ x0 by omega)
    have h1 := List.all_eq_true.mp ops_in i (List.mem_range.mpr (by omega))
    simp only [Bool.and_eq_true, beq_iff_eq] at h1
    obtain ⟨⟨s, t⟩, hs⟩ := Option.isSome_iff_exists.mp h1.1
    have h2 := h1.2
    unfold stO at h2
    rw [hs] at h2
    exact ⟨s, t, hs, (tail_same _ x ⟨#[97]⟩ s t a b).trans h2⟩
theorem InstrOps : Q.InstrOps := by
  intro x0 x1 _ _
  refine ⟨300, ?_⟩
  unfold pianolalaw05_InstrOps.f
  by_cases hx : x1.toList = []
  · have hn : instr_Named.f 300 x1 = some (0, false) := by
      unfold instr_Named.f
      rw [instr_Named.l0, if_pos (by decide), hx]
      rfl
    obtain ⟨s, t, h1, h2⟩ := tail_any x0 x1 0 false
    rw [h1]
    simp only [Option.bind_some]
    rw [hn]
    simp only [Option.bind_some]
    exact (ops_skip x0 x1 s t 0 false hx 51 0 0 false rfl).trans h2
  · have hn : instr_Named.f 300 x1 = some (fnd x1.toList 51 0) := named_run x1 hx 51 0 300 rfl (by decide)
    obtain ⟨s, t, h1, h2⟩ := tail_any x0 x1 (fnd x1.toList 51 0).1 (fnd x1.toList 51 0).2
    rw [h1]
    simp only [Option.bind_some]
    rw [hn]
    simp only [Option.bind_some]
    have h3 := ops_run x0 x1 s t (fnd x1.toList 51 0).1 (fnd x1.toList 51 0).2 hx 51 0 (0, false) rfl
    rw [lst_fnd x1.toList hx 51 0 rfl] at h3
    exact h3.trans h2
end Go.Proofs.Ytndedmkjmahohaa.Pure
