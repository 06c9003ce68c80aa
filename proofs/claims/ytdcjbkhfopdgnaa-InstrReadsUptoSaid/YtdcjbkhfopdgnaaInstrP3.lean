import Derived.Test.YtdcjbkhfopdgnaaInstrPl
import Derived.Test.YtdcjbkhfopdgnaaPF30
import Derived.Test.YtdcjbkhfopdgnaaPF29
/- The reference's first instruction is the program's; plain; no statement of the seat. -/
set_option linter.unusedSimpArgs false
set_option linter.unusedVariables false
namespace Go.Proofs.Ytdcjbkhfopdgnaa.Pl
open Go.RowKit Go.Proofs.Ytdcjbkhfopdgnaa.P Go.Proofs.YtdcjbkhfopdgnaaW.PrintWords Go.Proofs.YtdcjbkhfopdgnaaW.PrintLast Go.Proofs.YtdcjbkhfopdgnaaW.PrintMore
theorem rfirst_is (k : Nat) (b : List Int) (h : okB b) : pianolaref05_First.f (k + 5) b = some (fstB b) := by
  have r0 := rd_ok h 0
  have r1 := rd_ok h 1
  have r2 := rd_ok h 2
  have e0 := w64 (rd b 0) (by omega) (by omega)
  have e1 := w64 (rd b 1) (by omega) (by omega)
  have e2 := w64 (rd b 2) (by omega) (by omega)
  have e3 := w64 (256 * rd b 2) (by omega) (by omega)
  have e4 := w64 (rd b 1 + 256 * rd b 2) (by omega) (by omega)
  have hs0 := sz_lo (rd b 0)
  have hs1 := sz_hi (rd b 0)
  have h2 := sz_two
  unfold pianolaref05_First.f fstB
  by_cases h0 : b.length = 0
  · rw [if_pos (by omega), if_pos h0]
  · rw [if_neg (by omega), if_neg h0, if_pos (by omega), e0, rsize_all (k + 2)]
    simp only [Option.bind_some]
    by_cases hz : sz (rd b 0) = 0
    · rw [if_pos hz, if_pos (Or.inl hz)]
      simp only [pianolaref05_First.j0]
      rw [if_pos trivial]
    · rw [if_neg hz]
      simp only [pianolaref05_First.j0]
      by_cases hg : sz (rd b 0) > b.length
      · rw [if_pos (decide_eq_true hg), if_pos (Or.inr hg)]
      · have hor : ¬ (sz (rd b 0) = 0 ∨ sz (rd b 0) > b.length) := fun e => e.elim hz hg
        rw [if_neg (show ¬ (decide (sz (rd b 0) > (b.length : Int)) = true) by simpa using hg), if_neg hor, if_pos (show (0 : Int) < (b.length : Int) by omega), e0]
        by_cases ha : sz (rd b 0) > 1
        · rw [if_pos ha, if_pos (show (1 : Int) < (b.length : Int) by omega), e1]
          simp only [pianolaref05_First.j1]
          by_cases hb : sz (rd b 0) > 2
          · have n1 : ¬ sz (rd b 0) = 1 := by omega
            have n2 : ¬ sz (rd b 0) = 2 := by omega
            rw [if_pos hb, if_pos (show (2 : Int) < (b.length : Int) by omega), e2, e3, e4]
            by_cases ho : rd b 0 = 2
            · rw [ho, h2] at hb; omega
            · simp only [if_neg ho, if_neg n1, if_neg n2]
          · have n1 : ¬ sz (rd b 0) = 1 := by omega
            have n2 : sz (rd b 0) = 2 := by omega
            rw [if_neg hb]
            by_cases ho : rd b 0 = 2
            · simp only [if_pos ho, if_neg n1, if_pos n2]
              by_cases hc : rd b 1 > 127
              · rw [if_pos hc, if_pos hc, w64 (rd b 1 - 256) (by omega) (by omega)]
              · rw [if_neg hc, if_neg hc]
            · simp only [if_neg ho, if_neg n1, if_pos n2]
        · have n1 : sz (rd b 0) = 1 := by omega
          rw [if_neg ha]
          simp only [pianolaref05_First.j1]
          rw [if_neg (show ¬ sz (rd b 0) > 2 by omega)]
          by_cases ho : rd b 0 = 2
          · rw [ho, h2] at ha; omega
          · simp only [if_neg ho, if_pos n1]
end Go.Proofs.Ytdcjbkhfopdgnaa.Pl
/- What any bytes are as instructions: the instructions gone over, where they end, and that they give the bytes again; plain; no statement of the seat. -/
set_option linter.unusedSimpArgs false
set_option linter.unusedVariables false
namespace Go.Proofs.Ytdcjbkhfopdgnaa.Pl
open Go.RowKit Go.Proofs.Ytdcjbkhfopdgnaa.P Go.Proofs.YtdcjbkhfopdgnaaW.PrintWords Go.Proofs.YtdcjbkhfopdgnaaW.PrintLast Go.Proofs.YtdcjbkhfopdgnaaW.PrintMore
theorem fst_cases (b : List Int) (h : okB b) : fstB b = (0, 0, 0) ∨ ∃ (x : X) (s : Int), fstB b = (x.f0, x.f1, s) ∧ s = sz x.f0 ∧ 1 ≤ s ∧ s ≤ b.length ∧ mayB x.f0 x.f1 = true ∧ by1 x = b.take s.toNat := by
  have e8 : ∀ n : Int, IntKind.u8.wrap n = n % 256 := fun n => by simp [IntKind.wrap, IntKind.bits, IntKind.signed]
  by_cases h0 : b.length = 0
  · exact .inl (by unfold fstB; rw [if_pos h0])
  by_cases h1 : sz (rd b 0) = 0 ∨ sz (rd b 0) > b.length
  · exact .inl (by unfold fstB; rw [if_neg h0]; simp only []; rw [if_pos h1])
  right
  obtain ⟨o, b', rfl⟩ : ∃ o b', b = o :: b' := by cases b with | nil => exact absurd rfl h0 | cons o b' => exact ⟨o, b', rfl⟩
  have hr : rd (o :: b') 0 = o := rfl
  have ho := h o List.mem_cons_self
  rw [hr] at h1
  have hz := sz_lo o
  have hh := sz_hi o
  have hz2 := sz_two
  have h2 : fstB (o :: b') = (if o = 2 then (o, if (if sz o = 1 then 0 else if sz o = 2 then rd (o :: b') 1 else rd (o :: b') 1 + 256 * rd (o :: b') 2) > 127 then (if sz o = 1 then 0 else if sz o = 2 then rd (o :: b') 1 else rd (o :: b') 1 + 256 * rd (o :: b') 2) - 256 else (if sz o = 1 then 0 else if sz o = 2 then rd (o :: b') 1 else rd (o :: b') 1 + 256 * rd (o :: b') 2), sz o) else (o, (if sz o = 1 then 0 else if sz o = 2 then rd (o :: b') 1 else rd (o :: b') 1 + 256 * rd (o :: b') 2), sz o)) := by
    unfold fstB
    rw [if_neg h0]
    simp only [hr]
    rw [if_neg h1]
  by_cases s1 : sz o = 1
  · have t : o ≠ 2 := fun e => by rw [e, sz_two] at s1; cases s1
    refine ⟨⟨o, 0⟩, sz o, ?_, rfl, by omega, by omega, ?_, ?_⟩
    · rw [h2, if_neg t, if_pos s1]
    · show mayB o 0 = true
      unfold mayB
      rw [if_neg t, if_neg (by omega), if_neg (by omega)]
      simp; omega
    · show (ins3 ⟨o, 0⟩).take (sz o).toNat = _
      unfold ins3
      simp only [e8]
      rw [s1]
      show [o % 256] = [o]
      rw [show o % 256 = o by omega]
  · obtain ⟨p, b2, rfl⟩ : ∃ p b2, b' = p :: b2 := by
      cases b' with
      | nil => exfalso; simp only [List.length_singleton] at h1; omega
      | cons p b2 => exact ⟨p, b2, rfl⟩
    have hp := h p (by simp)
    have hr1 : rd (o :: p :: b2) 1 = p := rfl
    rw [hr1] at h2
    by_cases s2 : sz o = 2
    · rw [if_neg s1, if_pos s2] at h2
      by_cases t : o = 2
      · rw [if_pos t] at h2
        refine ⟨⟨o, if p > 127 then p - 256 else p⟩, sz o, h2, rfl, by omega, by simp only [List.length_cons] at h1 ⊢; omega, ?_, ?_⟩
        · show mayB o (if p > 127 then p - 256 else p) = true
          unfold mayB
          rw [if_pos t, Bool.and_eq_true, decide_eq_true_eq, decide_eq_true_eq]
          split <;> omega
        · show (ins3 ⟨o, _⟩).take (sz o).toNat = _
          unfold ins3
          simp only [e8]
          rw [s2]
          show [o % 256, (if p > 127 then p - 256 else p) % 256] = [o, p]
          rw [show o % 256 = o by omega, show (if p > 127 then p - 256 else p) % 256 = p by split <;> omega]
      · rw [if_neg t] at h2
        refine ⟨⟨o, p⟩, sz o, h2, rfl, by omega, by simp only [List.length_cons] at h1 ⊢; omega, ?_, ?_⟩
        · show mayB o p = true
          unfold mayB
          rw [if_neg t, if_pos s2, Bool.and_eq_true, decide_eq_true_eq, decide_eq_true_eq]
          omega
        · show (ins3 ⟨o, p⟩).take (sz o).toNat = _
          unfold ins3
          simp only [e8]
          rw [s2]
          show [o % 256, p % 256] = [o, p]
          rw [show o % 256 = o by omega, show p % 256 = p by omega]
    · have s3 : sz o = 3 := by omega
      have t : o ≠ 2 := fun e => by rw [e, sz_two] at s3; cases s3
      obtain ⟨q, b3, rfl⟩ : ∃ q b3, b2 = q :: b3 := by
        cases b2 with
        | nil => exfalso; simp only [List.length_cons, List.length_nil] at h1; omega
        | cons q b3 => exact ⟨q, b3, rfl⟩
      have hq := h q (by simp)
      have hr2 : rd (o :: p :: q :: b3) 2 = q := rfl
      rw [hr2, if_neg t, if_neg s1, if_neg s2] at h2
      refine ⟨⟨o, p + 256 * q⟩, sz o, h2, rfl, by omega, by simp only [List.length_cons] at h1 ⊢; omega, ?_, ?_⟩
      · show mayB o (p + 256 * q) = true
        unfold mayB
        rw [if_neg t, if_neg s2, if_pos s3, Bool.and_eq_true, decide_eq_true_eq, decide_eq_true_eq]
        omega
      · show (ins3 ⟨o, p + 256 * q⟩).take (sz o).toNat = _
        unfold ins3
        simp only [e8]
        rw [s3]
        show [o % 256, (p + 256 * q) % 256, (p + 256 * q) / 256 % 256] = [o, p, q]
        rw [show o % 256 = o by omega, show (p + 256 * q) % 256 = p by omega, show (p + 256 * q) / 256 % 256 = q by omega]
/-- What is gone over, and where it ends. -/
def gone (b : List Int) : Nat → Nat → List Ins × Nat
  | 0, at_ => ([], at_)
  | n + 1, at_ => if at_ < b.length then (if (fstB (b.drop at_)).2.2 = 0 then ([], at_) else
      (((at_ : Int), (⟨(fstB (b.drop at_)).1, (fstB (b.drop at_)).2.1⟩ : X)) :: (gone b n (at_ + (fstB (b.drop at_)).2.2.toNat)).1, (gone b n (at_ + (fstB (b.drop at_)).2.2.toNat)).2)) else ([], at_)
/-- The step: either it ends, or an instruction stands there. -/
theorem gone_step (b : List Int) (h : okB b) (at_ : Nat) (ha : at_ < b.length) : fstB (b.drop at_) = (0, 0, 0) ∨ ∃ (x : X) (s : Nat), fstB (b.drop at_) = (x.f0, x.f1, (s : Int)) ∧ (s : Int) = sz x.f0 ∧ 1 ≤ s ∧ s ≤ 3 ∧ at_ + s ≤ b.length ∧ mayB x.f0 x.f1 = true ∧ by1 x = (b.drop at_).take s := by
  rcases fst_cases (b.drop at_) (ok_drop h at_) with e | ⟨x, s, e, h1, h2, h3, h4, h5⟩
  · exact .inl e
  · have := sz_hi x.f0
    rw [List.length_drop] at h3
    refine .inr ⟨x, s.toNat, ?_, by omega, by omega, by omega, by omega, h4, h5⟩
    rw [e, Int.toNat_of_nonneg (by omega)]
theorem gone_le (b : List Int) (h : okB b) : ∀ (n at_ : Nat), at_ ≤ b.length → at_ ≤ (gone b n at_).2 ∧ (gone b n at_).2 ≤ b.length ∧ (gone b n at_).1.length ≤ (gone b n at_).2 - at_
  | 0, at_, ha => ⟨Nat.le_refl _, ha, Nat.zero_le _⟩
  | n + 1, at_, ha => by
    rw [gone]
    by_cases c : at_ < b.length
    · rw [if_pos c]
      rcases gone_step b h at_ c with e | ⟨x, s, e, h1, h2, h3, h4, h5, h6⟩
      · rw [e, if_pos rfl]; exact ⟨Nat.le_refl _, ha, Nat.zero_le _⟩
      · rw [e, if_neg (by simp only []; omega)]
        simp only [Int.toNat_natCast, List.length_cons]
        have ih := gone_le b h n (at_ + s) h4
        omega
    · rw [if_neg c]; exact ⟨Nat.le_refl _, ha, Nat.zero_le _⟩
theorem allF_gone (b : List Int) (h : okB b) : ∀ (n at_ : Nat), b.length - at_ < n → allF 200 b n at_ = some (gone b n at_).1
  | 0, _, hn => absurd hn (by omega)
  | n + 1, at_, hn => by
    rw [allF, gone]
    by_cases c : at_ < b.length
    · rw [if_pos c, if_pos c, first_is _ (ok_drop h at_)]
      simp only [Option.bind_some]
      rcases gone_step b h at_ c with e | ⟨x, s, e, h1, h2, h3, h4, h5, h6⟩
      · rw [e, if_pos rfl, if_pos rfl]
      · rw [e, if_neg (by simp only []; omega), if_pos (by simp only []; omega), if_neg (by simp only []; omega)]
        simp only [Int.toNat_natCast]
        rw [allF_gone b h n (at_ + s) (by omega)]
        rfl
    · rw [if_neg c, if_neg c]
/-- More rounds than bytes are left give no more. -/
theorem gone_more (b : List Int) (h : okB b) : ∀ (n m at_ : Nat), b.length - at_ < n → b.length - at_ < m → gone b n at_ = gone b m at_
  | 0, _, _, hn, _ => absurd hn (by omega)
  | _, 0, _, _, hm => absurd hm (by omega)
  | n + 1, m + 1, at_, hn, hm => by
    rw [gone, gone]
    by_cases c : at_ < b.length
    · rw [if_pos c, if_pos c]
      rcases gone_step b h at_ c with e | ⟨x, s, e, h1, h2, h3, h4, h5, h6⟩
      · rw [e, if_pos rfl, if_pos rfl]
      · rw [e]
        simp only [Int.toNat_natCast]
        rw [gone_more b h n m (at_ + s) (by omega) (by omega)]
    · rw [if_neg c, if_neg c]
theorem ends_gone (b : List Int) (h : okB b) (hl : b.length ≤ 4611686018427387904) : ∀ (n at_ : Nat), at_ ≤ b.length → (gone b n at_).1.foldl (fun _ (x : Ins) => wrap64 (x.1 + (instr_Size.f 200 x.2.f0).getD 0)) (at_ : Int) = ((gone b n at_).2 : Int)
  | 0, _, _ => rfl
  | n + 1, at_, ha => by
    rw [gone]
    by_cases c : at_ < b.length
    · rw [if_pos c]
      rcases gone_step b h at_ c with e | ⟨x, s, e, h1, h2, h3, h4, h5, h6⟩
      · rw [e, if_pos rfl]; rfl
      · rw [e, if_neg (by simp only []; omega)]
        simp only [Int.toNat_natCast, List.foldl_cons]
        rw [size_all, Option.getD_some, ← h1, show wrap64 ((at_ : Int) + (s : Int)) = ((at_ + s : Nat) : Int) by unfold wrap64; omega]
        exact ends_gone b h hl n (at_ + s) h4
    · rw [if_neg c]; rfl
theorem cat_gone (b : List Int) (h : okB b) : ∀ (n at_ : Nat), at_ ≤ b.length → cat ((gone b n at_).1.map (·.2)) = (b.drop at_).take ((gone b n at_).2 - at_) ∧ ∀ x ∈ (gone b n at_).1.map (·.2), mayB x.f0 x.f1 = true
  | 0, at_, _ => by
    rw [gone]
    simp [cat]
  | n + 1, at_, ha => by
    rw [gone]
    by_cases c : at_ < b.length
    · rw [if_pos c]
      rcases gone_step b h at_ c with e | ⟨x, s, e, h1, h2, h3, h4, h5, h6⟩
      · rw [e, if_pos rfl]; simp [cat]
      · rw [e, if_neg (by simp only []; omega)]
        simp only [Int.toNat_natCast, List.map_cons]
        obtain ⟨ih1, ih2⟩ := cat_gone b h n (at_ + s) h4
        obtain ⟨g1, g2, g3⟩ := gone_le b h n (at_ + s) h4
        refine ⟨?_, ?_⟩
        · rw [cat_cons]
          show by1 x ++ _ = _
          rw [ih1, h6, show (gone b n (at_ + s)).2 - at_ = s + ((gone b n (at_ + s)).2 - (at_ + s)) by omega, List.take_add, List.drop_drop]
        · intro y hy
          rcases List.mem_cons.mp hy with rfl | hy
          · exact h5
          · exact ih2 y hy
    · rw [if_neg c]; simp [cat]
/-- What any bytes are. -/
def decR (b : List Int) : List X × Int × Int := if (b.length : Int) > 4096 then ([], 3, 0) else if ((gone b (b.length + 1) 0).2 : Int) < b.length then ([], 50, ((gone b (b.length + 1) 0).2 : Int)) else ((gone b (b.length + 1) 0).1.map (·.2), 0, ((gone b (b.length + 1) 0).1.length : Int))
theorem dec_all (b : List Int) (h : okB b) : instr_Decode.f b = some (decR b) := by
  unfold instr_Decode.f decR
  by_cases c : (b.length : Int) > 4096
  · rw [if_pos c, if_pos c]
  · rw [if_neg c, if_neg c, allF_gone b h 5000 0 (by omega), gone_more b h 5000 (b.length + 1) 0 (by omega) (by omega)]
    simp only [Option.bind_some]
    rw [if_pos (List.all_eq_true.mpr fun y _ => by rw [size_all]; rfl)]
    have he : endsU (gone b (b.length + 1) 0).1 = ((gone b (b.length + 1) 0).2 : Int) := ends_gone b h (by omega) (b.length + 1) 0 (by omega)
    rw [he]
    split <;> rfl
theorem rdec_l0 (b : List Int) (h : okB b) (hl : b.length ≤ 4096) : ∀ (n at_ : Nat) (k : Nat) (acc : List X), at_ ≤ b.length → b.length - at_ < n → acc.length ≤ at_ →
    pianolaref05_Decode.l0 (k + 6 + n) b acc (at_ : Int) = some (if ((gone b n at_).2 : Int) < b.length then ([], 50, ((gone b n at_).2 : Int)) else (acc ++ (gone b n at_).1.map (·.2), 0, ((acc ++ (gone b n at_).1.map (·.2)).length : Int)))
  | 0, _, _, _, _, hn, _ => absurd hn (by omega)
  | n + 1, at_, k, acc, ha, hn, hacc => by
    rw [show k + 6 + (n + 1) = (k + 6 + n) + 1 by omega, pianolaref05_Decode.l0, gone]
    by_cases c : at_ < b.length
    · rw [if_pos (by omega), if_pos (by omega), if_pos (by omega), if_pos c, Int.toNat_natCast, show k + 6 + n = (k + 1 + n) + 5 by omega, rfirst_is _ _ (ok_drop h at_)]
      simp only [Option.bind_some]
      rcases gone_step b h at_ c with e | ⟨x, s, e, h1, h2, h3, h4, h5, h6⟩
      · rw [e, if_pos rfl, if_pos rfl, if_pos (by simp only []; omega)]
      · rw [e, if_neg (by simp only []; omega), if_pos (by omega)]
        simp only [Int.toNat_natCast, show ¬ ((s : Int) = 0) by omega, if_false]
        rw [show wrap64 ((at_ : Int) + (s : Int)) = ((at_ + s : Nat) : Int) by unfold wrap64; omega, show k + 1 + n + 5 = k + 6 + n by omega, rdec_l0 b h hl n (at_ + s) k (acc ++ [x]) h4 (by omega) (by rw [List.length_append, List.length_singleton]; omega)]
        simp only [List.append_assoc, List.singleton_append, List.map_cons]
    · rw [if_neg (by omega), if_neg c, if_neg (by simp only []; omega)]
      simp
theorem rdec_all (b : List Int) (h : okB b) (k : Nat) : pianolaref05_Decode.f (k + 6 + (b.length + 1)) b = some (decR b) := by
  unfold pianolaref05_Decode.f decR
  by_cases c : (b.length : Int) > 4096
  · rw [if_pos c, if_pos c]
  · rw [if_neg c, if_neg c]
    have := rdec_l0 b h (by omega) (b.length + 1) 0 k [] (by omega) (by omega) (by simp)
    simp only [List.nil_append, List.length_map] at this
    exact this
end Go.Proofs.Ytdcjbkhfopdgnaa.Pl
