/- Plain arithmetic of two words; no statement of the seat. -/
import Derived.Test.YtndedmkjmahohaaA64
set_option linter.unusedVariables false
set_option linter.unusedSimpArgs false
namespace Go.Proofs.Ytndedmkjmahohaa.A64
open Go.RowKit Go.Proofs.Ytndedmkjmahohaa.P Go.Proofs.YtndedmkjmahohaaW.PrintWords Go.Proofs.YtndedmkjmahohaaW.PrintLast Go.Proofs.YtndedmkjmahohaaW.PrintMore
theorem go_a (n : Int) : bits BinOp.or IntKind.u32 335544320 (bits BinOp.and IntKind.u32 (n % 4294967296) 67108863) = 335544320 + n % 67108864 := by
  have h := enc_or26_add 335544320 n (by decide) (by decide) (by decide)
  unfold enc_or26 at h
  rw [show bits .and .u32 (n % 4294967296) 67108863 % 4294967296 = bits .and .u32 (n % 4294967296) 67108863 from by rw [and_mask _ _ 26 (by decide) (by omega) (by omega) (by decide)]; omega] at h
  exact h
theorem go_b (n cond : Int) (h0 : 0 ≤ cond) (h1 : cond ≤ 15) : bits BinOp.or IntKind.u32 (bits BinOp.or IntKind.u32 1409286144 (bits BinOp.and IntKind.u32 (n % 4294967296 * 8192 % 4294967296 / 8192 * 32) 16777184)) (cond % 4294967296) = 1409286144 + cond + 32 * (n % 524288) := by
  have e1 : n % 4294967296 * 8192 % 4294967296 / 8192 * 32 = 32 * (n % 524288) := by omega
  have e2 : bits .and .u32 (32 * (n % 524288)) 16777184 = 32 * (n % 524288) := by
    obtain ⟨v, hv⟩ := Int.eq_ofNat_of_zero_le (show 0 ≤ n % 524288 from by omega)
    have hlt : v < 524288 := by omega
    rw [hv]
    have hw : ∀ m : Int, 0 ≤ m → m < 2 ^ 32 → IntKind.u32.wrap m = m := fun m h0 h1 => by rw [IntKind.wrap_u32]; omega
    have h := (bits_nat .u32 32 (by decide) hw (32 * v) 16777184 (by omega) (by decide)).1
    have hn : (32 * v) &&& 16777184 = 32 * v := by
      have := Nat.and_two_pow_sub_one_eq_mod v 19
      have e : (16777184 : Nat) = (2 ^ 19 - 1) <<< 5 := by decide
      have e' : 32 * v = v <<< 5 := by rw [Nat.shiftLeft_eq]; omega
      rw [e', e, ← Nat.shiftLeft_and_distrib, this, Nat.mod_eq_of_lt (by omega)]
    have hc : ((32 * v : Nat) : Int) = 32 * (v : Int) := by omega
    rw [hn, hc, show ((16777184 : Nat) : Int) = 16777184 from rfl] at h
    exact h
  have e3 : bits .or .u32 1409286144 (32 * (n % 524288)) = 1409286144 + 32 * (n % 524288) := by
    obtain ⟨v, hv⟩ := Int.eq_ofNat_of_zero_le (show 0 ≤ n % 524288 from by omega)
    exact or32 1409286144 _ 19 5 (by decide) (by decide) (by decide) v (by omega) (by rw [hv]; push_cast; rfl) (by omega) (by omega)
  rw [e1, e2, e3, show cond % 4294967296 = cond from by omega]
  obtain ⟨v, hv⟩ := Int.eq_ofNat_of_zero_le h0
  rw [or32 (1409286144 + 32 * (n % 524288)) cond 4 0 (by omega) (by omega) (by simp only [Nat.reduceAdd, Nat.reducePow]; omega) v (by omega) (by rw [hv]; simp) (by omega) (by omega)]
  omega
end Go.Proofs.Ytndedmkjmahohaa.A64
