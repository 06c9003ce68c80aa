/- What a register holds after the instructions that load it: the plain part. -/
import Derived.Test.YtndedmkjmahohaaQEncodeLoads
import Derived.Test.YtndedmkjmahohaaA64
import Derived.Laws.Bits64b
import Derived.Laws.DeepNot64
set_option linter.unusedSimpArgs false
set_option linter.unusedVariables false
namespace Go.Proofs.Ytndedmkjmahohaa.Pure
open Go.RowKit Go.Proofs.Ytndedmkjmahohaa.P Go.Proofs.YtndedmkjmahohaaW.PrintWords Go.Proofs.YtndedmkjmahohaaW.PrintLast Go.Proofs.YtndedmkjmahohaaW.PrintMore Go.Proofs.Ytndedmkjmahohaa.A64
abbrev X := S55
theorem livesL : pianolalaw12_lives.f = some true := by decide +kernel
theorem wfL {n : Int} (h : (Lit.int .i64 n).wf = true) : -9223372036854775808 ≤ n ∧ n < 9223372036854775808 := by
  simp [Lit.wf, IntKind.min, IntKind.max, IntKind.bits, IntKind.signed] at h
  omega
theorem nat_clear (hi lo v i : Nat) (hlo : lo < 2 ^ i) (hv : v < 2 ^ 16) (hV : 2 ^ (i + 16) * hi + lo + 2 ^ i * v < 2 ^ 64) (hM : 65535 * 2 ^ i < 2 ^ 64) :
    (2 ^ (i + 16) * hi + lo + 2 ^ i * v) &&& (2 ^ 64 - (65535 * 2 ^ i + 1)) = 2 ^ (i + 16) * hi + lo := by
  rw [← or_add hi lo v 16 i hlo hv]
  apply Nat.eq_of_testBit_eq
  intro t
  have hp : (2 : Nat) ^ i ≤ 2 ^ (i + 16) := Nat.pow_le_pow_right (by decide) (by omega)
  rw [Nat.testBit_and, Nat.testBit_or, Nat.testBit_two_pow_sub_succ hM]
  have hY : (2 ^ i * v).testBit t = (decide (i ≤ t) && v.testBit (t - i)) := by
    rw [Nat.mul_comm, ← Nat.shiftLeft_eq, Nat.testBit_shiftLeft]
  have hMt : (65535 * 2 ^ i).testBit t = (decide (i ≤ t) && decide (t - i < 16)) := by
    rw [← Nat.shiftLeft_eq, Nat.testBit_shiftLeft, show (65535 : Nat) = 2 ^ 16 - 1 from rfl, Nat.testBit_two_pow_sub_one]
  have hX : (2 ^ (i + 16) * hi + lo).testBit t = if t < i + 16 then lo.testBit t else hi.testBit (t - (i + 16)) := Nat.testBit_two_pow_mul_add hi (Nat.lt_of_lt_of_le hlo hp) t
  have hX64 : (2 ^ (i + 16) * hi + lo).testBit t = true → t < 64 := by
    intro h
    exact Nat.lt_of_not_le fun hle => by
      have : 2 ^ (i + 16) * hi + lo < 2 ^ t := Nat.lt_of_lt_of_le (by omega) (Nat.pow_le_pow_right (by decide) hle)
      rw [Nat.testBit_lt_two_pow this] at h
      cases h
  rw [hY, hMt]
  by_cases c1 : i ≤ t
  · by_cases c2 : t - i < 16
    · have hl : lo.testBit t = false := Nat.testBit_lt_two_pow (Nat.lt_of_lt_of_le hlo (Nat.pow_le_pow_right (by decide) c1))
      rw [hX, if_pos (by omega), hl]
      simp [c1, c2]
    · have hv' : v.testBit (t - i) = false := Nat.testBit_lt_two_pow (Nat.lt_of_lt_of_le hv (Nat.pow_le_pow_right (by decide) (by omega)))
      rw [hv']
      cases hx : (2 ^ (i + 16) * hi + lo).testBit t
      · simp
      · simp [c1, c2, hX64 hx]
  · cases hx : (2 ^ (i + 16) * hi + lo).testBit t
    · simp [c1]
    · simp [c1, hX64 hx]
theorem andNot_u64 (a b : Nat) (ha : a < 2 ^ 64) (hb : b < 2 ^ 64) : bits .andNot .u64 (a : Int) (b : Int) = ((a &&& (2 ^ 64 - (b + 1)) : Nat) : Int) := by
  have hx : a &&& (2 ^ 64 - (b + 1)) < 2 ^ 64 := Nat.and_lt_two_pow _ (by omega)
  have h1 : (BitVec.ofInt 64 (a : Int)).toNat = a := by
    rw [BitVec.ofInt_natCast, BitVec.toNat_ofNat]; exact Nat.mod_eq_of_lt ha
  have h2 : (BitVec.ofInt 64 (b : Int)).toNat = b := by
    rw [BitVec.ofInt_natCast, BitVec.toNat_ofNat]; exact Nat.mod_eq_of_lt hb
  show IntKind.u64.wrap ((BitVec.ofInt 64 (a : Int) &&& ~~~ BitVec.ofInt 64 (b : Int)).toNat : Int) = _
  rw [BitVec.toNat_and, BitVec.toNat_not, h1, h2, IntKind.wrap_u64, show 2 ^ 64 - 1 - b = 2 ^ 64 - (b + 1) from by omega]
  omega
theorem xor_u64 (b : Nat) (hb : b < 18446744073709551616) : bits .xor .u64 18446744073709551615 (b : Int) = ((18446744073709551615 - b : Nat) : Int) := by
  have h2 : (BitVec.ofInt 64 (b : Int)).toNat = b := by
    rw [BitVec.ofInt_natCast, BitVec.toNat_ofNat]; exact Nat.mod_eq_of_lt hb
  show IntKind.u64.wrap ((BitVec.ofInt 64 18446744073709551615 ^^^ BitVec.ofInt 64 (b : Int)).toNat : Int) = _
  rw [show BitVec.ofInt 64 18446744073709551615 = BitVec.allOnes 64 from by decide, BitVec.allOnes_xor, BitVec.toNat_not, h2, IntKind.wrap_u64]
  omega
theorem shl_piece (p : Nat) (k : Nat) (hk : k < 4) (hp : p < 65536) : shl .u64 (p : Int) (wrap64 (16 * (k : Int))) = ((p * 2 ^ (16 * k) : Nat) : Int) ∧ p * 2 ^ (16 * k) < 18446744073709551616 := by
  have : k = 0 ∨ k = 1 ∨ k = 2 ∨ k = 3 := by omega
  rcases this with rfl | rfl | rfl | rfl
  all_goals
    refine ⟨?_, by simp only [Nat.mul_zero, Nat.mul_one, Nat.reduceMul, Nat.reducePow]; omega⟩
    unfold shl wrap64
    rw [IntKind.wrap_u64]
    simp only [Nat.mul_zero, Nat.mul_one, Nat.reduceMul, Nat.reducePow]
    first
      | (rw [show min ((16 * ((0 : Nat) : Int) + 9223372036854775808) % 18446744073709551616 - 9223372036854775808).toNat IntKind.u64.bits = 0 from by decide]; omega)
      | (rw [show min ((16 * ((1 : Nat) : Int) + 9223372036854775808) % 18446744073709551616 - 9223372036854775808).toNat IntKind.u64.bits = 16 from by decide]; omega)
      | (rw [show min ((16 * ((2 : Nat) : Int) + 9223372036854775808) % 18446744073709551616 - 9223372036854775808).toNat IntKind.u64.bits = 32 from by decide]; omega)
      | (rw [show min ((16 * ((3 : Nat) : Int) + 9223372036854775808) % 18446744073709551616 - 9223372036854775808).toNat IntKind.u64.bits = 48 from by decide]; omega)
/-- What the reference's loop does with one instruction. -/
def st (v : Int) (x : X) : Int :=
  if x.f0 = 16 then shl .u64 (IntKind.u64.wrap x.f5) (wrap64 (16 * x.f6)) else
  if x.f0 = 18 then Go.bits .xor .u64 18446744073709551615 (shl .u64 (IntKind.u64.wrap x.f5) (wrap64 (16 * x.f6))) else
  Go.bits .or .u64 (Go.bits .andNot .u64 v (shl .u64 65535 (wrap64 (16 * x.f6)))) (shl .u64 (IntKind.u64.wrap x.f5) (wrap64 (16 * x.f6)))
def okx (x : X) : Prop := encode_May.f x.f0 x.f1 x.f2 x.f3 x.f4 x.f5 x.f6 x.f7 = some true ∧ 0 ≤ wrap64 (16 * x.f6)
theorem rd_getL (l : List X) (i : Nat) (h : i < l.length) : rd_T55 l (i : Int) = l[i] := by
  unfold rd_T55
  rw [Int.toNat_natCast, List.getD_eq_getElem?_getD, List.getElem?_eq_getElem h]
  rfl
theorem loop (n : Int) (l : List X) (hg : ∀ x ∈ l, okx x) (hl : l.length ≤ 5) : ∀ (d i k : Nat) (v : Int), i + d = l.length → 2 * d < k →
    pianolalaw12_EncodeLoads.l0 k n l l v i = (if (l.length : Int) = 0 then some true else some (wrap64 ((l.drop i).foldl st v) == n)) := by
  intro d
  induction d with
  | zero =>
    intro i k v hi hk
    obtain ⟨k, rfl⟩ : ∃ m, k = m + 1 := ⟨k - 1, by omega⟩
    rw [pianolalaw12_EncodeLoads.l0, if_neg (by omega), List.drop_of_length_le (by omega)]
    rfl
  | succ d ih =>
    intro i k v hi hk
    obtain ⟨k, rfl⟩ : ∃ m, k = m + 1 + 1 := ⟨k - 2, by omega⟩
    have hlt : i < l.length := by omega
    obtain ⟨hm, hs⟩ := hg l[i] (List.getElem_mem hlt)
    rw [pianolalaw12_EncodeLoads.l0, if_pos (by omega), if_pos (by omega), if_pos (by omega), rd_getL l i hlt]
    simp only [beq_self_eq_true, Bool.not_true, Bool.or_false, Bool.false_eq_true, if_false]
    rw [hm]
    simp only [Option.bind_some, Bool.not_true]
    rw [pianolalaw12_EncodeLoads.j2]
    simp only [Bool.false_eq_true, if_false]
    rw [if_pos (by omega), if_pos (by omega), rd_getL l i hlt, if_pos hs]
    have hw : wrap64 ((i : Int) + 1) = ((i + 1 : Nat) : Int) := by unfold wrap64; omega
    rw [hw, ← List.getElem_cons_drop hlt, List.foldl_cons]
    have hst : ∀ a, st v l[i] = a → pianolalaw12_EncodeLoads.l0 k n l l a ((i + 1 : Nat) : Int) = (if (l.length : Int) = 0 then some true else some (wrap64 ((l.drop (i + 1)).foldl st (st v l[i])) == n)) := fun a ha => by
      rw [ha]; exact ih (i + 1) k a (by omega) (by omega)
    by_cases e1 : l[i].f0 = 16
    · rw [if_pos e1]; exact hst _ (by unfold st; rw [if_pos e1])
    · rw [if_neg e1]
      by_cases e2 : l[i].f0 = 18
      · rw [if_pos e2]; exact hst _ (by unfold st; rw [if_neg e1, if_pos e2])
      · rw [if_neg e2]; exact hst _ (by unfold st; rw [if_neg e1, if_neg e2])
theorem wrap_p (p : Nat) (hp : p < 65536) : IntKind.u64.wrap (p : Int) = (p : Int) := by
  have : IntKind.u64.wrap (p : Int) = (p : Int) % 18446744073709551616 := by simp [IntKind.wrap, IntKind.bits, IntKind.signed]
  omega
theorem st_movz (v rd : Int) (p k : Nat) (hk : k < 4) (hp : p < 65536) : st v ⟨16, rd, 0, 0, 0, (p : Int), (k : Int), 0⟩ = ((p * 2 ^ (16 * k) : Nat) : Int) := by
  unfold st
  rw [if_pos rfl, wrap_p p hp]
  exact (shl_piece p k hk hp).1
theorem st_movn (v rd : Int) (p k : Nat) (hk : k < 4) (hp : p < 65536) : st v ⟨18, rd, 0, 0, 0, (p : Int), (k : Int), 0⟩ = ((18446744073709551615 - p * 2 ^ (16 * k) : Nat) : Int) := by
  unfold st
  rw [if_neg (show ¬ (18 : Int) = 16 by decide), if_pos rfl, wrap_p p hp, (shl_piece p k hk hp).1]
  exact xor_u64 _ (shl_piece p k hk hp).2
theorem st_movk (rd : Int) (hi lo u p k : Nat) (hk : k < 4) (hp : p < 65536) (hu : u < 65536) (hlo : lo < 2 ^ (16 * k)) (hV : 2 ^ (16 * k + 16) * hi + lo + 2 ^ (16 * k) * u < 2 ^ 64) (v : Int) (hv : v = ((2 ^ (16 * k + 16) * hi + lo + 2 ^ (16 * k) * u : Nat) : Int)) :
    st v ⟨17, rd, 0, 0, 0, (p : Int), (k : Int), 0⟩ = ((2 ^ (16 * k + 16) * hi + lo + 2 ^ (16 * k) * p : Nat) : Int) := by
  obtain ⟨a1, a2⟩ := shl_piece 65535 k hk (by decide)
  obtain ⟨b1, b2⟩ := shl_piece p k hk hp
  unfold st
  rw [if_neg (show ¬ (17 : Int) = 16 by decide), if_neg (show ¬ (17 : Int) = 18 by decide), wrap_p p hp, b1, hv]
  rw [show shl .u64 65535 (wrap64 (16 * (k : Int))) = ((65535 * 2 ^ (16 * k) : Nat) : Int) from a1]
  rw [andNot_u64 _ _ hV a2, nat_clear hi lo u (16 * k) hlo hu hV a2, bits_or_u64_nat _ _ (by omega) b2, Nat.mul_comm p, or_add hi lo p 16 (16 * k) hlo hp]
theorem piece_eq (n : Int) (k : Nat) (hk : k < 4) (h1 : -9223372036854775808 ≤ n) (h2 : n < 9223372036854775808) : load_piece n k = (n / 2 ^ (16 * k)) % 65536 := by
  unfold load_piece
  have hr : -9223372036854775808 ≤ n / 2 ^ (16 * k) ∧ n / 2 ^ (16 * k) < 9223372036854775808 := by
    have : k = 0 ∨ k = 1 ∨ k = 2 ∨ k = 3 := by omega
    rcases this with rfl | rfl | rfl | rfl <;> simp only [Nat.mul_zero, Nat.mul_one, Nat.reduceMul, Int.reducePow] <;> omega
  exact and_low16 _ hr.1 hr.2
theorem nil_len {l : List X} (h : l.length = 0) : l = [] := List.length_eq_zero_iff.mp h
theorem upto_pos (rd n : Int) (h0 : 0 ≤ n) (h1 : n < 9223372036854775808) : ∀ k : Nat, k ≤ 4 →
    (load_upto rd 16 0 n k).foldl st 0 = n % 2 ^ (16 * k) ∧ (load_upto rd 16 0 n k = [] → n % 2 ^ (16 * k) = 0) := by
  intro k
  induction k with
  | zero => intro _; simp only [load_upto, List.foldl_nil, Nat.mul_zero, Int.pow_zero]; exact ⟨by omega, fun _ => by omega⟩
  | succ k ih =>
    intro hk
    obtain ⟨iv, ie⟩ := ih (by omega)
    have hk4 : k < 4 := by omega
    have hp := piece_eq n k hk4 (by omega) h1
    obtain ⟨r0, r1⟩ := piece_range n k hk4 (by omega) h1
    obtain ⟨P, hP⟩ := Int.eq_ofNat_of_zero_le r0
    simp only [load_upto, load_step]
    obtain ⟨l, hl⟩ : ∃ l, l = load_upto rd 16 0 n k := ⟨_, rfl⟩
    rw [← hl] at iv ie ⊢
    clear hl ih
    by_cases hz : load_piece n k = 0
    · rw [if_pos hz]
      have e : n % 2 ^ (16 * (k + 1)) = n % 2 ^ (16 * k) := by
        rw [hz] at hp
        have : k = 0 ∨ k = 1 ∨ k = 2 ∨ k = 3 := by omega
        rcases this with rfl | rfl | rfl | rfl <;> simp only [Nat.zero_add, Nat.mul_zero, Nat.mul_one, Nat.reduceAdd, Nat.reduceMul, Int.reducePow] at hp ⊢ <;> omega
      rw [e]
      exact ⟨iv, ie⟩
    · rw [if_neg hz]
      refine ⟨?_, fun h => absurd h (by simp)⟩
      rw [List.foldl_append, iv]
      simp only [List.foldl_cons, List.foldl_nil]
      unfold load_item
      by_cases ho : l.length = 0
      · rw [if_pos ho, xor_zero64 _ r0 r1, hP, st_movz _ rd P k hk4 (by omega)]
        have e := ie (nil_len ho)
        rw [hP] at hp
        clear iv ie
        have : k = 0 ∨ k = 1 ∨ k = 2 ∨ k = 3 := by omega
        rcases this with rfl | rfl | rfl | rfl <;> simp only [Nat.zero_add, Nat.mul_zero, Nat.mul_one, Nat.reduceAdd, Nat.reduceMul, Int.reducePow, Nat.reducePow] at hp e ⊢ <;> omega
      · rw [if_neg ho, hP]
        rw [hP] at hp
        clear iv ie
        have : k = 0 ∨ k = 1 ∨ k = 2 ∨ k = 3 := by omega
        rcases this with rfl | rfl | rfl | rfl
        all_goals
          simp only [Nat.zero_add, Nat.mul_zero, Nat.mul_one, Nat.reduceAdd, Nat.reduceMul, Int.reducePow] at hp ⊢
        · obtain ⟨lo, hlo⟩ := Int.eq_ofNat_of_zero_le (show 0 ≤ n % 1 by omega)
          refine (st_movk rd 0 lo 0 P 0 hk4 (by omega) (by decide) (by simp; omega) (by simp; omega) _ (by rw [hlo]; simp)).trans ?_
          simp only [Nat.zero_add, Nat.mul_zero, Nat.mul_one, Nat.reduceAdd, Nat.reduceMul, Nat.reducePow]
          omega
        · obtain ⟨lo, hlo⟩ := Int.eq_ofNat_of_zero_le (show 0 ≤ n % 65536 by omega)
          refine (st_movk rd 0 lo 0 P 1 hk4 (by omega) (by decide) (by simp; omega) (by simp; omega) _ (by rw [hlo]; simp)).trans ?_
          simp only [Nat.zero_add, Nat.mul_zero, Nat.mul_one, Nat.reduceAdd, Nat.reduceMul, Nat.reducePow]
          omega
        · obtain ⟨lo, hlo⟩ := Int.eq_ofNat_of_zero_le (show 0 ≤ n % 4294967296 by omega)
          refine (st_movk rd 0 lo 0 P 2 hk4 (by omega) (by decide) (by simp; omega) (by simp; omega) _ (by rw [hlo]; simp)).trans ?_
          simp only [Nat.zero_add, Nat.mul_zero, Nat.mul_one, Nat.reduceAdd, Nat.reduceMul, Nat.reducePow]
          omega
        · obtain ⟨lo, hlo⟩ := Int.eq_ofNat_of_zero_le (show 0 ≤ n % 281474976710656 by omega)
          refine (st_movk rd 0 lo 0 P 3 hk4 (by omega) (by decide) (by simp; omega) (by simp; omega) _ (by rw [hlo]; simp)).trans ?_
          simp only [Nat.zero_add, Nat.mul_zero, Nat.mul_one, Nat.reduceAdd, Nat.reduceMul, Nat.reducePow]
          omega
theorem upto_neg (rd n : Int) (h0 : n < 0) (h1 : -9223372036854775808 ≤ n) : ∀ k : Nat, k ≤ 4 →
    (load_upto rd 18 65535 n k ≠ [] → (load_upto rd 18 65535 n k).foldl st 0 = 18446744073709551616 - 2 ^ (16 * k) + n % 2 ^ (16 * k)) ∧ (load_upto rd 18 65535 n k = [] → n % 2 ^ (16 * k) = 2 ^ (16 * k) - 1) := by
  intro k
  induction k with
  | zero => intro _; simp only [load_upto, List.foldl_nil, Nat.mul_zero, Int.pow_zero]; exact ⟨fun h => absurd rfl h, fun _ => by omega⟩
  | succ k ih =>
    intro hk
    obtain ⟨iv, ie⟩ := ih (by omega)
    have hk4 : k < 4 := by omega
    have hp := piece_eq n k hk4 h1 (by omega)
    obtain ⟨r0, r1⟩ := piece_range n k hk4 h1 (by omega)
    obtain ⟨P, hP⟩ := Int.eq_ofNat_of_zero_le r0
    simp only [load_upto, load_step]
    obtain ⟨l, hl⟩ : ∃ l, l = load_upto rd 18 65535 n k := ⟨_, rfl⟩
    rw [← hl] at iv ie ⊢
    clear hl ih
    by_cases hz : load_piece n k = 65535
    · rw [if_pos hz]
      rw [hz] at hp
      refine ⟨fun h => ?_, fun h => ?_⟩
      · rw [iv h]
        have : k = 0 ∨ k = 1 ∨ k = 2 ∨ k = 3 := by omega
        rcases this with rfl | rfl | rfl | rfl <;> simp only [Nat.zero_add, Nat.mul_zero, Nat.mul_one, Nat.reduceAdd, Nat.reduceMul, Int.reducePow] at hp ⊢ <;> omega
      · have e := ie h
        have : k = 0 ∨ k = 1 ∨ k = 2 ∨ k = 3 := by omega
        rcases this with rfl | rfl | rfl | rfl <;> simp only [Nat.zero_add, Nat.mul_zero, Nat.mul_one, Nat.reduceAdd, Nat.reduceMul, Int.reducePow] at hp e ⊢ <;> omega
    · rw [if_neg hz]
      refine ⟨fun _ => ?_, fun h => absurd h (by simp)⟩
      rw [List.foldl_append]
      simp only [List.foldl_cons, List.foldl_nil]
      unfold load_item
      by_cases ho : l.length = 0
      · have e := ie (nil_len ho)
        have hq : bits .xor .i64 (load_piece n k) 65535 = ((65535 - P : Nat) : Int) := by
          rw [xor_low16 _ r0 r1, hP]; unfold wrap64; omega
        rw [if_pos ho, hq, st_movn _ rd (65535 - P) k hk4 (by omega)]
        rw [hP] at hp
        clear iv ie
        have : k = 0 ∨ k = 1 ∨ k = 2 ∨ k = 3 := by omega
        rcases this with rfl | rfl | rfl | rfl <;> simp only [Nat.zero_add, Nat.mul_zero, Nat.mul_one, Nat.reduceAdd, Nat.reduceMul, Int.reducePow, Nat.reducePow] at hp e ⊢ <;> omega
      · rw [iv (fun h => ho (by rw [h]; rfl)), if_neg ho, hP]
        rw [hP] at hp
        clear iv ie
        have : k = 0 ∨ k = 1 ∨ k = 2 ∨ k = 3 := by omega
        rcases this with rfl | rfl | rfl | rfl
        all_goals
          simp only [Nat.zero_add, Nat.mul_zero, Nat.mul_one, Nat.reduceAdd, Nat.reduceMul, Int.reducePow] at hp ⊢
        · obtain ⟨lo, hlo⟩ := Int.eq_ofNat_of_zero_le (show 0 ≤ n % 1 by omega)
          refine (st_movk rd 281474976710655 lo 65535 P 0 hk4 (by omega) (by decide) (by simp only [Nat.mul_zero, Nat.mul_one, Nat.reduceMul, Nat.reducePow]; omega) (by simp only [Nat.zero_add, Nat.mul_zero, Nat.mul_one, Nat.reduceAdd, Nat.reduceMul, Nat.reducePow]; omega) _ (by rw [hlo]; simp only [Nat.zero_add, Nat.mul_zero, Nat.mul_one, Nat.reduceAdd, Nat.reduceMul, Nat.reducePow]; omega)).trans ?_
          simp only [Nat.zero_add, Nat.mul_zero, Nat.mul_one, Nat.reduceAdd, Nat.reduceMul, Nat.reducePow]
          omega
        · obtain ⟨lo, hlo⟩ := Int.eq_ofNat_of_zero_le (show 0 ≤ n % 65536 by omega)
          refine (st_movk rd 4294967295 lo 65535 P 1 hk4 (by omega) (by decide) (by simp only [Nat.mul_zero, Nat.mul_one, Nat.reduceMul, Nat.reducePow]; omega) (by simp only [Nat.zero_add, Nat.mul_zero, Nat.mul_one, Nat.reduceAdd, Nat.reduceMul, Nat.reducePow]; omega) _ (by rw [hlo]; simp only [Nat.zero_add, Nat.mul_zero, Nat.mul_one, Nat.reduceAdd, Nat.reduceMul, Nat.reducePow]; omega)).trans ?_
          simp only [Nat.zero_add, Nat.mul_zero, Nat.mul_one, Nat.reduceAdd, Nat.reduceMul, Nat.reducePow]
          omega
        · obtain ⟨lo, hlo⟩ := Int.eq_ofNat_of_zero_le (show 0 ≤ n % 4294967296 by omega)
          refine (st_movk rd 65535 lo 65535 P 2 hk4 (by omega) (by decide) (by simp only [Nat.mul_zero, Nat.mul_one, Nat.reduceMul, Nat.reducePow]; omega) (by simp only [Nat.zero_add, Nat.mul_zero, Nat.mul_one, Nat.reduceAdd, Nat.reduceMul, Nat.reducePow]; omega) _ (by rw [hlo]; simp only [Nat.zero_add, Nat.mul_zero, Nat.mul_one, Nat.reduceAdd, Nat.reduceMul, Nat.reducePow]; omega)).trans ?_
          simp only [Nat.zero_add, Nat.mul_zero, Nat.mul_one, Nat.reduceAdd, Nat.reduceMul, Nat.reducePow]
          omega
        · obtain ⟨lo, hlo⟩ := Int.eq_ofNat_of_zero_le (show 0 ≤ n % 281474976710656 by omega)
          refine (st_movk rd 0 lo 65535 P 3 hk4 (by omega) (by decide) (by simp only [Nat.mul_zero, Nat.mul_one, Nat.reduceMul, Nat.reducePow]; omega) (by simp only [Nat.zero_add, Nat.mul_zero, Nat.mul_one, Nat.reduceAdd, Nat.reduceMul, Nat.reducePow]; omega) _ (by rw [hlo]; simp only [Nat.zero_add, Nat.mul_zero, Nat.mul_one, Nat.reduceAdd, Nat.reduceMul, Nat.reducePow]; omega)).trans ?_
          simp only [Nat.zero_add, Nat.mul_zero, Nat.mul_one, Nat.reduceAdd, Nat.reduceMul, Nat.reducePow]
          omega
theorem item_ok (rd : Int) (hr0 : 0 ≤ rd) (hr1 : rd < 31) (op p : Int) (k : Nat) (hk : k < 4) (ho : op = 16 ∨ op = 17 ∨ op = 18) (p0 : 0 ≤ p) (p1 : p < 65536) : okx ⟨op, rd, 0, 0, 0, p, (k : Int), 0⟩ := by
  have hc : CMV rd 0 0 0 p (k : Int) 0 := by unfold CMV; omega
  refine ⟨?_, by show 0 ≤ wrap64 (16 * (k : Int)); unfold wrap64; omega⟩
  unfold encode_May.f
  rcases ho with rfl | rfl | rfl
  · show (encode_Encode.f 16 rd 0 0 0 p (k : Int) 0).bind _ = _
    rw [enc16, if_pos hc]; rfl
  · show (encode_Encode.f 17 rd 0 0 0 p (k : Int) 0).bind _ = _
    rw [enc17, if_pos hc]; rfl
  · show (encode_Encode.f 18 rd 0 0 0 p (k : Int) 0).bind _ = _
    rw [enc18, if_pos hc]; rfl
theorem load_item_ok (rd fop emp n : Int) (hr0 : 0 ≤ rd) (hr1 : rd < 31) (hf : (fop = 16 ∧ emp = 0) ∨ (fop = 18 ∧ emp = 65535)) (p : Int) (p0 : 0 ≤ p) (p1 : p < 65536) (k : Nat) (hk : k < 4) (l : List X) : okx (load_item rd fop emp p (k : Int) l) := by
  unfold load_item
  by_cases ho : l.length = 0
  · rw [if_pos ho]
    rcases hf with ⟨rfl, rfl⟩ | ⟨rfl, rfl⟩
    · rw [xor_zero64 p p0 p1]; exact item_ok rd hr0 hr1 16 p k hk (.inl rfl) p0 p1
    · have e : bits .xor .i64 p 65535 = 65535 - p := by rw [xor_low16 p p0 p1]; unfold wrap64; omega
      rw [e]; exact item_ok rd hr0 hr1 18 _ k hk (.inr (.inr rfl)) (by omega) (by omega)
  · rw [if_neg ho]; exact item_ok rd hr0 hr1 17 p k hk (.inr (.inl rfl)) p0 p1
theorem upto_ok (rd fop emp n : Int) (hr0 : 0 ≤ rd) (hr1 : rd < 31) (hf : (fop = 16 ∧ emp = 0) ∨ (fop = 18 ∧ emp = 65535)) (h1 : -9223372036854775808 ≤ n) (h2 : n < 9223372036854775808) : ∀ k : Nat, k ≤ 4 → ∀ x ∈ load_upto rd fop emp n k, okx x := by
  intro k
  induction k with
  | zero => intro _ x hx; simp [load_upto] at hx
  | succ k ih =>
    intro hk x hx
    simp only [load_upto, load_step] at hx
    obtain ⟨r0, r1⟩ := piece_range n k (by omega) h1 h2
    by_cases hz : load_piece n k = emp
    · rw [if_pos hz] at hx; exact ih (by omega) x hx
    · rw [if_neg hz] at hx
      rcases List.mem_append.mp hx with hx | hx
      · exact ih (by omega) x hx
      · rw [List.mem_singleton.mp hx]
        exact load_item_ok rd fop emp n hr0 hr1 hf _ r0 r1 k (by omega) _
theorem all_ok (rd fop emp n : Int) (hr0 : 0 ≤ rd) (hr1 : rd < 31) (hf : (fop = 16 ∧ emp = 0) ∨ (fop = 18 ∧ emp = 65535)) (h1 : -9223372036854775808 ≤ n) (h2 : n < 9223372036854775808) : (∀ x ∈ load_all rd fop emp n, okx x) ∧ (load_all rd fop emp n).length ≤ 4 ∧ load_all rd fop emp n ≠ [] := by
  have hl := load_upto_len rd fop emp n 4
  have hu := upto_ok rd fop emp n hr0 hr1 hf h1 h2 4 (Nat.le_refl _)
  unfold load_all
  by_cases ho : (load_upto rd fop emp n 4).length = 0
  · rw [if_pos ho]
    refine ⟨fun x hx => ?_, by simp; omega, by simp⟩
    rcases List.mem_append.mp hx with hx | hx
    · exact hu x hx
    · rw [List.mem_singleton.mp hx]
      exact load_item_ok rd fop emp n hr0 hr1 hf emp (by omega) (by omega) 0 (by decide) _
  · rw [if_neg ho]
    exact ⟨hu, hl, fun h => ho (by rw [h]; rfl)⟩
theorem all_pos (rd n : Int) (h0 : 0 ≤ n) (h1 : n < 9223372036854775808) : wrap64 ((load_all rd 16 0 n).foldl st 0) = n := by
  obtain ⟨iv, ie⟩ := upto_pos rd n h0 h1 4 (Nat.le_refl _)
  simp only [Nat.reduceMul, Int.reducePow] at iv ie
  unfold load_all
  by_cases ho : (load_upto rd 16 0 n 4).length = 0
  · have e := ie (nil_len ho)
    rw [if_pos ho, List.foldl_append]
    simp only [List.foldl_cons, List.foldl_nil]
    unfold load_item
    rw [if_pos ho, xor_zero64 0 (by decide) (by decide)]
    refine (congrArg wrap64 (st_movz _ rd 0 0 (by decide) (by decide))).trans ?_
    simp only [Nat.zero_mul]
    unfold wrap64
    omega
  · rw [if_neg ho, iv]
    unfold wrap64
    omega
theorem all_neg (rd n : Int) (h0 : n < 0) (h1 : -9223372036854775808 ≤ n) : wrap64 ((load_all rd 18 65535 n).foldl st 0) = n := by
  obtain ⟨iv, ie⟩ := upto_neg rd n h0 h1 4 (Nat.le_refl _)
  simp only [Nat.reduceMul, Int.reducePow] at iv ie
  unfold load_all
  by_cases ho : (load_upto rd 18 65535 n 4).length = 0
  · have e := ie (nil_len ho)
    rw [if_pos ho, List.foldl_append]
    simp only [List.foldl_cons, List.foldl_nil]
    unfold load_item
    rw [if_pos ho, show bits .xor .i64 65535 65535 = 0 from by decide]
    refine (congrArg wrap64 (st_movn _ rd 0 0 (by decide) (by decide))).trans ?_
    simp only [Nat.zero_mul]
    unfold wrap64
    omega
  · rw [if_neg ho, iv (fun h => ho (by rw [h]; rfl))]
    unfold wrap64
    omega
theorem EncodeLoads : Q.EncodeLoads := by
  intro rd n hr hn
  obtain ⟨h1, h2⟩ := wfL hn
  refine ⟨20, ?_⟩
  have key : ∀ l, encode_Load.f rd n = some l → l.length ≤ 4 → (∀ x ∈ l, okx x) → (l ≠ [] → wrap64 (l.foldl st 0) = n) → pianolalaw12_EncodeLoads.f 20 rd n = some true := by
    intro l hf hl hg hv
    have hf' : pianolaref12_Load.f rd n = some l := by unfold pianolaref12_Load.f; rw [if_pos ⟨h1, h2⟩]; exact hf
    unfold pianolalaw12_EncodeLoads.f
    rw [hf, hf', livesL]
    simp only [Option.bind_some, if_true]
    rw [pianolalaw12_EncodeLoads.j0, if_neg (by simp; omega)]
    have h := loop n l hg (by omega) l.length 0 19 0 (by omega) (by omega)
    refine h.trans ?_
    by_cases e : l.length = 0
    · rw [if_pos (by omega)]
    · rw [if_neg (by omega), List.drop_zero, hv (fun h => e (by rw [h]; rfl)), beq_self_eq_true]
  by_cases g0 : rd < 0
  · exact key [] (by unfold encode_Load.f; rw [if_pos g0]) (by decide) (fun _ h => by simp at h) (fun h => absurd rfl h)
  by_cases g1 : rd ≥ 31
  · exact key [] (by unfold encode_Load.f; rw [if_neg g0, if_pos g1]) (by decide) (fun _ h => by simp at h) (fun h => absurd rfl h)
  by_cases g2 : n < 0
  · obtain ⟨a, b, c⟩ := all_ok rd 18 65535 n (by omega) (by omega) (.inr ⟨rfl, rfl⟩) h1 h2
    exact key _ (by unfold encode_Load.f; rw [if_neg g0, if_neg g1, if_pos g2]) b a (fun _ => all_neg rd n g2 h1)
  · obtain ⟨a, b, c⟩ := all_ok rd 16 0 n (by omega) (by omega) (.inl ⟨rfl, rfl⟩) h1 h2
    exact key _ (by unfold encode_Load.f; rw [if_neg g0, if_neg g1, if_neg g2]) b a (fun _ => all_pos rd n (by omega) h2)
end Go.Proofs.Ytndedmkjmahohaa.Pure
