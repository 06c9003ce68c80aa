import Derived.Test.YtjkjpmfenillcaaCodecG
/- codec, in plain Lean: what was written is read; no statement of the seat. -/
set_option linter.unusedVariables false
set_option linter.unusedSimpArgs false
namespace Go.Proofs.Ytjkjpmfenillcaa.P
open Go.RowKit Go.Proofs.YtjkjpmfenillcaaW.PrintWords Go.Proofs.YtjkjpmfenillcaaW.PrintLast Go.Proofs.YtjkjpmfenillcaaW.PrintMore
theorem emod_step (y a : Int) (ha : 0 < a) : y % (a * 256) = y % a + y / a % 256 * a := by
  have h1 := Int.mul_ediv_add_emod y a
  have h2 := Int.mul_ediv_add_emod (y / a) 256
  have h3 := Int.emod_nonneg y (show a ≠ 0 by omega)
  have h4 := Int.emod_lt_of_pos y ha
  have h5 := Int.emod_nonneg (y / a) (show (256 : Int) ≠ 0 by decide)
  have h6 := Int.emod_lt_of_pos (y / a) (show (0 : Int) < 256 by decide)
  obtain ⟨q, hq⟩ : ∃ q, q = y / a / 256 := ⟨_, rfl⟩
  obtain ⟨r, hr⟩ : ∃ r, r = y / a % 256 := ⟨_, rfl⟩
  obtain ⟨t, ht⟩ : ∃ t, t = y % a := ⟨_, rfl⟩
  rw [← hq, ← hr] at h2
  rw [← ht] at h1 h3 h4
  rw [← hr] at h5 h6
  rw [← hr, ← ht]
  have hy : y = (t + r * a) + (a * 256) * q := by
    rw [← h1, ← h2]
    simp only [Int.mul_add, Int.mul_comm, Int.mul_left_comm]
    omega
  have hlt : t + r * a < a * 256 := by
    have : r * a ≤ 255 * a := Int.mul_le_mul_of_nonneg_right (by omega) (by omega)
    omega
  have h0 : 0 ≤ t + r * a := by
    have : 0 ≤ r * a := Int.mul_nonneg h5 (by omega)
    omega
  rw [hy, Int.add_mul_emod_self_left]
  exact Int.emod_eq_of_lt h0 hlt
theorem leN_leB (x : Int) : ∀ n : Nat, leN (leB x n) = x % 18446744073709551616 % 256 ^ n
  | 0 => by rw [Int.pow_zero, Int.emod_one]; rfl
  | n + 1 => by
    rw [leB_succ, leN_snoc, leN_leB x n, leB_length, Int.pow_succ, emod_step _ _ (Int.pow_pos (by decide)), ← pow8]
theorem leB_ok (x : Int) (n : Nat) : okB (leB x n) := by
  intro y hy
  unfold leB at hy
  obtain ⟨i, _, rfl⟩ := List.mem_map.mp hy
  exact ⟨Int.emod_nonneg _ (by decide), Int.emod_lt_of_pos _ (by decide)⟩
/-- A size that numbers have, and the most that they may be. -/
def Sz (n : Nat) (most : Int) : Prop := (n = 1 ∧ most = 255) ∨ (n = 2 ∧ most = 65535) ∨ (n = 4 ∧ most = 65536) ∨ (n = 2 ∧ most = 4096) ∨ (n = 8 ∧ most = 0) ∨ (n = 1 ∧ most = 1)
def i64 (x : Int) : Prop := -9223372036854775808 ≤ x ∧ x < 9223372036854775808
def okN (n : Nat) (most x : Int) : Prop := n = 8 ∨ (0 ≤ x ∧ x ≤ most)
instance (n : Nat) (most x : Int) : Decidable (okN n most x) := by unfold okN; infer_instance
theorem numS_ok (s : List Int × Int) (n : Nat) (most x : Int) (h0 : s.2 = 0) (h : okN n most x) : numS s n most x = putS s (leB x n) := by
  unfold numS lowS
  have hd : (decide (n = 8) || (decide (0 ≤ x) && decide (x ≤ most))) = true := by
    rw [Bool.or_eq_true, Bool.and_eq_true, decide_eq_true_eq, decide_eq_true_eq, decide_eq_true_eq]; exact h
  rw [hd, if_neg (by simp)]
theorem numS_no (s : List Int × Int) (n : Nat) (most x : Int) (h0 : s.2 = 0) (h : ¬ okN n most x) : numS s n most x = (s.1, 1) := by
  unfold numS lowS
  have hd : (decide (n = 8) || (decide (0 ≤ x) && decide (x ≤ most))) = false := by
    rw [← Bool.not_eq_true, Bool.or_eq_true, Bool.and_eq_true, decide_eq_true_eq, decide_eq_true_eq, decide_eq_true_eq]; exact h
  rw [hd, if_pos ⟨h0, rfl⟩]
  unfold putS
  rw [if_pos (by simp)]
theorem numS_stop (s : List Int × Int) (n : Nat) (most x : Int) (h0 : s.2 ≠ 0) : numS s n most x = s := by
  unfold numS lowS
  rw [if_neg (by rintro ⟨h, _⟩; exact h0 h)]
  unfold putS
  rw [if_pos h0]
/-- A number's bytes, and what stands behind. -/
theorem low_leB (x : Int) (n : Nat) (most : Int) (hs : Sz n most) (hx : i64 x) (ho : okN n most x) (r : List Int) : lowI (leB x n ++ r, false) n most = (x, r, false) := by
  have hl := leB_length x n
  have ht : takeS (leB x n ++ r, false) n = (leB x n, r, false) := by
    unfold takeS
    rw [if_neg (by simp only [Bool.false_eq_true, false_or, not_or, List.length_append, hl]; omega)]
    simp only [Int.toNat_natCast]
    have e1 : (leB x n ++ r).take n = leB x n := by
      have h := List.take_left (l₁ := leB x n) (l₂ := r)
      rwa [hl] at h
    have e2 : (leB x n ++ r).drop n = r := by
      have h := List.drop_left (l₁ := leB x n) (l₂ := r)
      rwa [hl] at h
    rw [e1, e2]
  have hv : wrap64 (leN (leB x n)) = x := by
    rw [leN_leB]
    unfold i64 at hx
    rcases hs with ⟨rfl, rfl⟩ | ⟨rfl, rfl⟩ | ⟨rfl, rfl⟩ | ⟨rfl, rfl⟩ | ⟨rfl, rfl⟩ | ⟨rfl, rfl⟩ <;> unfold wrap64 <;> rcases ho with ho | ho <;> first | omega | (simp only [Int.reducePow]; omega)
  unfold lowI
  rw [ht]
  simp only [hv, Bool.false_or]
  have hd : (decide ((n : Int) < 8) && decide (x > most)) = false := by
    rcases ho with ho | ho
    · subst ho; rfl
    · rw [decide_eq_false (show ¬ x > most by omega), Bool.and_false]
  rw [hd, if_neg (by simp)]
theorem encR_num (n : Nat) (most x : Int) (hn : n ≤ 8) : encR (numS ([], 0) n most x) = if okN n most x then (leB x n, 0) else ([], 1) := by
  have hl := leB_length x n
  by_cases h : okN n most x
  · rw [if_pos h, numS_ok _ _ _ _ rfl h]
    unfold putS
    rw [if_neg (by simp), if_neg (by simp only [List.length_nil]; omega)]
    rfl
  · rw [if_neg h, numS_no _ _ _ _ rfl h]
    rfl
theorem decR_num (n : Nat) (most x : Int) (hs : Sz n most) (hn : n ≤ 8) (hx : i64 x) (ho : okN n most x) : decR (fun s => lowI s n most) 0 (leB x n) = (x, 0) := by
  have hl := leB_length x n
  have h := low_leB x n most hs hx ho []
  rw [List.append_nil] at h
  have hf : fstR (fun s => lowI s n most) 0 (leB x n) = (x, (n : Int), 0) := by
    unfold fstR
    simp only [h]
    rw [if_neg (by simp only [List.length_nil, Bool.false_or, decide_eq_true_eq]; omega)]
    simp [hl]
  unfold decR
  rw [hf]
  simp [hl]
end Go.Proofs.Ytjkjpmfenillcaa.P
/- codec, in plain Lean: blobs, texts, lists; no statement of the seat. -/
set_option linter.unusedVariables false
set_option linter.unusedSimpArgs false
namespace Go.Proofs.Ytjkjpmfenillcaa.P
open Go.RowKit Go.Proofs.YtjkjpmfenillcaaW.PrintWords Go.Proofs.YtjkjpmfenillcaaW.PrintLast Go.Proofs.YtjkjpmfenillcaaW.PrintMore
theorem takeS_app (b r : List Int) : takeS (b ++ r, false) (b.length : Int) = (b, r, false) := by
  unfold takeS
  rw [if_neg (by simp only [Bool.false_eq_true, false_or, not_or, List.length_append]; omega)]
  simp
theorem blobG_is (b r : List Int) (h : b.length ≤ 65536) : blobG (leB (b.length : Int) 4 ++ (b ++ r), false) = (b, r, false) := by
  unfold blobG
  have hl := low_leB (b.length : Int) 4 65536 (.inr (.inr (.inl ⟨rfl, rfl⟩))) ⟨by omega, by omega⟩ (.inr ⟨by omega, by omega⟩) (b ++ r)
  rw [show ((4 : Nat) : Int) = 4 from rfl] at hl
  rw [hl]
  exact takeS_app b r
theorem strOf_bytes (b : List Int) (h : okB b) : bytesOf (strOfNums b) = b := by
  unfold bytesOf strOfNums
  rw [List.map_map]
  refine (List.map_congr_left (g := id) fun x hx => ?_).trans (List.map_id _)
  have h1 := h x hx
  show (((UInt8.ofNat x.toNat).toNat : Nat) : Int) = x
  rw [UInt8.toNat_ofNat']
  omega
theorem strOf_size (b : List Int) : (strOfNums b).size = b.length := by
  show ((b.map fun n => UInt8.ofNat n.toNat).toArray).size = b.length
  simp
end Go.Proofs.Ytjkjpmfenillcaa.P
/- codec, in plain Lean: lists of numbers and what they are written as; no statement of the seat. -/
set_option linter.unusedVariables false
set_option linter.unusedSimpArgs false
namespace Go.Proofs.Ytjkjpmfenillcaa.P
open Go.RowKit Go.Proofs.YtjkjpmfenillcaaW.PrintWords Go.Proofs.YtjkjpmfenillcaaW.PrintLast Go.Proofs.YtjkjpmfenillcaaW.PrintMore
def okInts (b : List Int) : Bool := b.all fun x => decide (-9223372036854775808 ≤ x) && decide (x < 9223372036854775808)
theorem okInts_is {b : List Int} (h : okInts b = true) : ∀ x ∈ b, i64 x := by
  unfold okInts at h
  rw [List.all_eq_true] at h
  intro x hx
  have := h x hx
  rw [Bool.and_eq_true, decide_eq_true_eq, decide_eq_true_eq] at this
  exact this
theorem okInts_of (b : List Int) (h : ∀ y ∈ b, (Lit.int .i64 y).wf = true) : okInts b = true := by
  unfold okInts
  rw [List.all_eq_true]
  intro x hx
  have := h x hx
  simp [Lit.wf, IntKind.min, IntKind.max, IntKind.bits, IntKind.signed] at this
  rw [Bool.and_eq_true, decide_eq_true_eq, decide_eq_true_eq]
  omega
/-- Two strings of bytes are the same just if the bytes are. -/
theorem strOf_ne {a b : List Int} (ha : okB a) (hb : okB b) (h : a ≠ b) : ((strOfNums a).toList == (strOfNums b).toList) = false := by
  rw [beq_eq_false_iff_ne]
  intro e
  rw [ByteArray.toList_eq, ByteArray.toList_eq] at e
  have h1 : strOfNums a = strOfNums b := ByteArray.ext (Array.toList_inj.mp e)
  have h2 := congrArg bytesOf h1
  rw [strOf_bytes a ha, strOf_bytes b hb] at h2
  exact h h2
end Go.Proofs.Ytjkjpmfenillcaa.P
/- codec, in plain Lean: lists of pairs of a number and a blob; no statement of the seat. -/
set_option linter.unusedVariables false
set_option linter.unusedSimpArgs false
namespace Go.Proofs.Ytjkjpmfenillcaa.P
open Go.RowKit Go.Proofs.YtjkjpmfenillcaaW.PrintWords Go.Proofs.YtjkjpmfenillcaaW.PrintLast Go.Proofs.YtjkjpmfenillcaaW.PrintMore
theorem putS_inv (s : List Int × Int) (ys bs : List Int) (h : putS s ys = (bs, 0)) : s.2 = 0 ∧ bs = s.1 ++ ys := by
  unfold putS at h
  split at h
  · rename_i hs
    rw [h] at hs
    exact absurd rfl hs
  · rename_i hs
    split at h
    · cases h
    · exact ⟨by simpa using hs, (Prod.mk.inj h).1.symm⟩
theorem numS_inv (s : List Int × Int) (n : Nat) (most x : Int) (bs : List Int) (h : numS s n most x = (bs, 0)) : s.2 = 0 ∧ okN n most x ∧ bs = s.1 ++ leB x n := by
  by_cases hs : s.2 = 0
  · by_cases ho : okN n most x
    · rw [numS_ok s n most x hs ho] at h
      exact ⟨hs, ho, (putS_inv _ _ _ h).2⟩
    · rw [numS_no s n most x hs ho] at h
      cases h
  · rw [numS_stop s n most x hs] at h
    rw [h] at hs
    exact absurd rfl hs
theorem blobS_inv (s : List Int × Int) (ys bs : List Int) (h : blobS s ys = (bs, 0)) : s.2 = 0 ∧ ys.length ≤ 65536 ∧ bs = s.1 ++ (leB (ys.length : Int) 4 ++ ys) := by
  unfold blobS at h
  obtain ⟨h1, h2⟩ := putS_inv _ _ _ h
  obtain ⟨h3, h4, h5⟩ := numS_inv s 4 65536 (ys.length : Int) (numS s 4 65536 (ys.length : Int)).fst (Prod.ext rfl h1)
  refine ⟨h3, ?_, ?_⟩
  · rcases h4 with h4 | h4
    · cases h4
    · omega
  · rw [h2, h5, List.append_assoc]
end Go.Proofs.Ytjkjpmfenillcaa.P
