/- The difference of two numbers with its flags, and which conditions hold: plain; no statement of the seat. -/
import Derived.Test.YtjhgbddcenhkfaaPF11
import Derived.Test.YtjhgbddcenhkfaaPF12
import Derived.Test.YtjhgbddcenhkfaaPF14
import Derived.Test.YtjhgbddcenhkfaaPF15
set_option linter.unusedVariables false
set_option linter.unusedSimpArgs false
namespace Go.Proofs.Ytjhgbddcenhkfaa.P
open Go.RowKit Go.Proofs.YtjhgbddcenhkfaaW.PrintWords Go.Proofs.YtjhgbddcenhkfaaW.PrintLast
theorem wrapN (z : BitVec 64) : decide (IntKind.i64.wrap (z.toNat : Int) < 0) = z.msb := by
  rw [BitVec.msb_eq_decide, IntKind.wrap_i64]
  have := z.isLt
  apply decide_eq_decide.mpr
  omega
theorem msbI (x : Int) (h0 : -9223372036854775808 ≤ x) (h1 : x < 9223372036854775808) : (BitVec.ofInt 64 x).msb = decide (x < 0) := by
  rw [BitVec.msb_eq_decide, BitVec.toNat_ofInt]
  apply decide_eq_decide.mpr
  omega
theorem ofI_wrap (z : BitVec 64) : BitVec.ofInt 64 (IntKind.i64.wrap (z.toNat : Int)) = z := by
  apply BitVec.eq_of_toNat_eq
  rw [BitVec.toNat_ofInt, IntKind.wrap_i64]
  have := z.isLt
  omega
theorem over (a b d : Int) (ha : -9223372036854775808 ≤ a) (ha1 : a < 9223372036854775808) (hb : -9223372036854775808 ≤ b) (hb1 : b < 9223372036854775808) (hd : -9223372036854775808 ≤ d) (hd1 : d < 9223372036854775808) :
    decide (Go.bits .and .i64 (Go.bits .xor .i64 a b) (Go.bits .xor .i64 a d) < 0) = ((decide (a < 0) ^^ decide (b < 0)) && (decide (a < 0) ^^ decide (d < 0))) := by
  have h1 : Go.bits .xor .i64 a b = IntKind.i64.wrap ((BitVec.ofInt 64 a ^^^ BitVec.ofInt 64 b).toNat : Int) := rfl
  have h2 : Go.bits .xor .i64 a d = IntKind.i64.wrap ((BitVec.ofInt 64 a ^^^ BitVec.ofInt 64 d).toNat : Int) := rfl
  have h3 : ∀ x y, Go.bits .and .i64 x y = IntKind.i64.wrap ((BitVec.ofInt 64 x &&& BitVec.ofInt 64 y).toNat : Int) := fun _ _ => rfl
  rw [h3, wrapN, h1, h2, ofI_wrap, ofI_wrap, BitVec.msb_and, BitVec.msb_xor, BitVec.msb_xor, msbI a ha ha1, msbI b hb hb1, msbI d hd hd1]
theorem wrap64_in (x : Int) : -9223372036854775808 ≤ wrap64 x ∧ wrap64 x < 9223372036854775808 := by unfold wrap64; omega
section
variable (a b : Int) (ha : -9223372036854775808 ≤ a) (ha1 : a < 9223372036854775808) (hb : -9223372036854775808 ≤ b) (hb1 : b < 9223372036854775808)
include ha ha1 hb hb1
theorem sub_zero : (wrap64 (a - b) == 0) = (a == b) := by
  rw [Bool.eq_iff_iff, beq_iff_eq, beq_iff_eq]
  unfold wrap64
  omega
theorem less_is : cpu_Less.f a b = some (wrap64 (a - b), decide (wrap64 (a - b) < 0), (a == b), decide ((IntKind.u64.wrap a) ≥ (IntKind.u64.wrap b)), ((decide (a < 0) ^^ decide (b < 0)) && (decide (a < 0) ^^ decide (wrap64 (a - b) < 0)))) := by
  have hd := wrap64_in (a - b)
  unfold cpu_Less.f
  rw [over a b _ ha ha1 hb hb1 hd.1 hd.2, sub_zero a b ha ha1 hb hb1]
theorem ref_less : pianolaref14_Less.f a b = cpu_Less.f a b := by
  rw [less_is a b ha ha1 hb hb1]
  unfold pianolaref14_Less.f
  generalize decide (a < 0) = p
  generalize decide (b < 0) = q
  generalize decide (wrap64 (a - b) < 0) = r
  cases p <;> cases q <;> cases r <;> rfl
end
theorem holds_c : ∀ (c : Fin 16) (fN fZ fC fV : Bool), cpu_Holds.f 6 c.val fN fZ fC fV = pianolaref14_Holds.f c.val fN fZ fC fV := by decide +kernel
theorem ite_some {c : Prop} [Decidable c] {a b : Option Bool} (h1 : ∃ r, a = some r) (h2 : ∃ r, b = some r) : ∃ r, (if c then a else b) = some r := by
  by_cases h : c
  · rw [if_pos h]; exact h1
  · rw [if_neg h]; exact h2
theorem holds_is (c : Int) (fN fZ fC fV : Bool) : ∃ r, cpu_Holds.f 6 c fN fZ fC fV = some r ∧ pianolaref14_Holds.f c fN fZ fC fV = some r := by
  by_cases h : 0 ≤ c ∧ c ≤ 15
  · obtain ⟨n, rfl⟩ := Int.eq_ofNat_of_zero_le h.1
    have h1 := holds_c ⟨n, by omega⟩ fN fZ fC fV
    dsimp only at h1
    rw [h1]
    suffices h : ∃ r, pianolaref14_Holds.f (n : Int) fN fZ fC fV = some r by
      obtain ⟨r, h⟩ := h
      exact ⟨r, h, h⟩
    unfold pianolaref14_Holds.f
    repeat' (first | (with_reducible exact ⟨_, rfl⟩) | (refine ite_some ?_ ?_))
  · refine ⟨false, ?_, ?_⟩
    · unfold cpu_Holds.f
      by_cases h0 : c < 0
      · rw [if_pos h0, cpu_Holds.j0, if_pos rfl]
      · rw [if_neg h0, decide_eq_true (show c > 15 by omega), cpu_Holds.j0, if_pos rfl]
    · unfold pianolaref14_Holds.f
      repeat rw [if_neg (by omega)]
end Go.Proofs.Ytjhgbddcenhkfaa.P
