/- What the reference's Encode comes to, op by op: plain arithmetic; no statement of the seat. -/
import Derived.Test.YtndedmkjmahohaaPF35
import Derived.Test.YtndedmkjmahohaaA64
set_option linter.unusedVariables false
set_option linter.unusedSimpArgs false
namespace Go.Proofs.Ytndedmkjmahohaa.A64
open Go.RowKit Go.Proofs.Ytndedmkjmahohaa.P Go.Proofs.YtndedmkjmahohaaW.PrintWords Go.Proofs.YtndedmkjmahohaaW.PrintLast Go.Proofs.YtndedmkjmahohaaW.PrintMore
def Ps : List S91 := [⟨100, 0, 5, false⟩, ⟨110, 5, 5, false⟩, ⟨109, 16, 5, false⟩, ⟨97, 10, 5, false⟩, ⟨105, 10, 12, false⟩, ⟨119, 5, 16, false⟩, ⟨115, 21, 2, false⟩, ⟨99, 12, 4, false⟩, ⟨98, 0, 26, true⟩, ⟨111, 5, 19, true⟩, ⟨113, 0, 4, false⟩]
theorem ps_eq : pianolaref12_Pieces.f = some Ps := rfl
theorem wrap_lit (i : Int) (h0 : 0 ≤ i) (h : i < 100) : wrap64 (i + 1) = i + 1 := by unfold wrap64; omega
section
variable (k : Nat) (W i : Int) (x0 x1 x2 x3 x4 x5 x6 x7 rw : Int) (rf : ByteArray) (y0 y1 y2 y3 y4 y5 y6 y7 : Int)
abbrev L (k : Nat) (W i : Int) (x0 x1 x2 x3 x4 x5 x6 x7 rw : Int) (rf : ByteArray) (y0 y1 y2 y3 y4 y5 y6 y7 : Int) := pianolaref12_Encode.l0 k W Ps i x0 x1 x2 x3 x4 x5 x6 x7 rw rf y0 y1 y2 y3 y4 y5 y6 y7
theorem step_skip (j : Int) (hj : i + 1 = j) (h0 : 0 ≤ i) (h1 : i < 11) (hh : pianolaref12_has.f k rf (rd_T91 Ps i).f0 = some false) :
    L (k + 1) W i x0 x1 x2 x3 x4 x5 x6 x7 rw rf y0 y1 y2 y3 y4 y5 y6 y7 = L k W j x0 x1 x2 x3 x4 x5 x6 x7 rw rf y0 y1 y2 y3 y4 y5 y6 y7 := by
  subst hj
  unfold L
  rw [pianolaref12_Encode.l0, if_pos (show i < (Ps.length : Int) from h1), if_pos h0, hh, wrap_lit i h0 (by omega)]
  simp only [Option.bind_some, Bool.false_eq_true, if_false]
def sk (rf : ByteArray) : Nat → Nat → Int → Bool
  | 0, _, _ => true
  | n + 1, k, i => (pianolaref12_has.f (k + n) rf (rd_T91 Ps i).f0 == some false) && sk rf n k (i + 1)
theorem skip_run (n : Nat) : ∀ (k : Nat) (i j : Int), i + n = j → 0 ≤ i → j ≤ 11 → sk rf n k i = true → L (k + n) W i x0 x1 x2 x3 x4 x5 x6 x7 rw rf y0 y1 y2 y3 y4 y5 y6 y7 = L k W j x0 x1 x2 x3 x4 x5 x6 x7 rw rf y0 y1 y2 y3 y4 y5 y6 y7 := by
  induction n with
  | zero => intro k i j hj _ _ _; subst hj; simp
  | succ n ih =>
    intro k i j hj h0 h1 hs
    simp only [sk, Bool.and_eq_true, beq_iff_eq] at hs
    rw [← Nat.add_assoc, step_skip (k + n) W i x0 x1 x2 x3 x4 x5 x6 x7 rw rf y0 y1 y2 y3 y4 y5 y6 y7 (i + 1) rfl h0 (by omega) hs.1]
    exact ih k (i + 1) j (by omega) (by omega) h1 hs.2
theorem step_take_u (j : Int) (hj : i + 1 = j) (n sz at_ h m c W2 : Int) (z0 z1 z2 z3 z4 z5 z6 z7 : Int) (h0 : 0 ≤ i) (h1 : i < 11) (hc : (rd_T91 Ps i).f0 = c) (hh : pianolaref12_has.f (k + 1) rf c = some true) (hg : pianolaref12_Get.f x0 x1 x2 x3 x4 x5 x6 x7 c = some n)
    (hs : (rd_T91 Ps i).f2 = sz) (ha : (rd_T91 Ps i).f1 = at_) (h3 : (rd_T91 Ps i).f3 = false) (hz : pianolaref12_Set.f y0 y1 y2 y3 y4 y5 y6 y7 c 0 = some (z0, z1, z2, z3, z4, z5, z6, z7))
    (p0 : 0 ≤ sz) (p1 : 0 ≤ at_) (q2 : wrap64 ((shl .i64 1 sz) - 1) = m) (q3 : ¬ shl .u64 1 sz = 0) (hW : Go.bits .or .u32 W (shl .u32 ((Int.tmod (IntKind.u64.wrap n) (shl .u64 1 sz)) % 4294967296) at_) = W2)
    (r1 : 0 ≤ n) (r2 : n ≤ m) :
    L (k + 1 + 1) W i x0 x1 x2 x3 x4 x5 x6 x7 rw rf y0 y1 y2 y3 y4 y5 y6 y7 = L k W2 j x0 x1 x2 x3 x4 x5 x6 x7 rw rf z0 z1 z2 z3 z4 z5 z6 z7 := by
  subst hj
  unfold L
  rw [pianolaref12_Encode.l0, if_pos (show i < (Ps.length : Int) from h1), if_pos h0, hc, hh]
  simp only [Option.bind_some, if_true, hg, hs, ha, h3, if_pos p0]
  simp only [Bool.false_eq_true, if_false]
  rw [q2]
  rw [pianolaref12_Encode.j2, if_neg (by omega), if_neg (by omega), if_pos h0, if_pos (show i < (Ps.length : Int) from h1)]
  simp only [hc, hs, ha, if_pos p0]
  rw [if_neg q3, if_pos p1, hz]
  simp only [Option.bind_some]
  rw [hW, wrap_lit i h0 (by omega)]
theorem step_take_u_bad (n sz at_ h m c : Int) (h0 : 0 ≤ i) (h1 : i < 11) (hc : (rd_T91 Ps i).f0 = c) (hh : pianolaref12_has.f (k + 1) rf c = some true) (hg : pianolaref12_Get.f x0 x1 x2 x3 x4 x5 x6 x7 c = some n)
    (hs : (rd_T91 Ps i).f2 = sz) (h3 : (rd_T91 Ps i).f3 = false)
    (p0 : 0 ≤ sz) (q2 : wrap64 ((shl .i64 1 sz) - 1) = m)
    (r1 : ¬ (0 ≤ n ∧ n ≤ m)) :
    L (k + 1 + 1) W i x0 x1 x2 x3 x4 x5 x6 x7 rw rf y0 y1 y2 y3 y4 y5 y6 y7 = some (0, false) := by
  unfold L
  rw [pianolaref12_Encode.l0, if_pos (show i < (Ps.length : Int) from h1), if_pos h0, hc, hh]
  simp only [Option.bind_some, if_true, hg, hs, h3, if_pos p0]
  simp only [Bool.false_eq_true, if_false]
  rw [q2]
  rw [pianolaref12_Encode.j2]
  by_cases e : n < 0
  · rw [if_pos e]
  · rw [if_neg e, if_pos (by omega)]
theorem step_take_s (j : Int) (hj : i + 1 = j) (n sz at_ h m c W2 : Int) (z0 z1 z2 z3 z4 z5 z6 z7 : Int) (h0 : 0 ≤ i) (h1 : i < 11) (hc : (rd_T91 Ps i).f0 = c) (hh : pianolaref12_has.f (k + 1) rf c = some true) (hg : pianolaref12_Get.f x0 x1 x2 x3 x4 x5 x6 x7 c = some n)
    (hs : (rd_T91 Ps i).f2 = sz) (ha : (rd_T91 Ps i).f1 = at_) (h3 : (rd_T91 Ps i).f3 = true) (hz : pianolaref12_Set.f y0 y1 y2 y3 y4 y5 y6 y7 c 0 = some (z0, z1, z2, z3, z4, z5, z6, z7))
    (p0 : 0 ≤ sz) (p1 : 0 ≤ at_) (q0 : 0 ≤ wrap64 (sz - 1)) (q1 : wrap64 (-(shl .i64 1 (wrap64 (sz - 1)))) = -h) (q2 : wrap64 ((shl .i64 1 (wrap64 (sz - 1))) - 1) = h - 1) (q3 : ¬ shl .u64 1 sz = 0) (hW : Go.bits .or .u32 W (shl .u32 ((Int.tmod (IntKind.u64.wrap n) (shl .u64 1 sz)) % 4294967296) at_) = W2)
    (r1 : -h ≤ n) (r2 : n ≤ h - 1) :
    L (k + 1 + 1) W i x0 x1 x2 x3 x4 x5 x6 x7 rw rf y0 y1 y2 y3 y4 y5 y6 y7 = L k W2 j x0 x1 x2 x3 x4 x5 x6 x7 rw rf z0 z1 z2 z3 z4 z5 z6 z7 := by
  subst hj
  unfold L
  rw [pianolaref12_Encode.l0, if_pos (show i < (Ps.length : Int) from h1), if_pos h0, hc, hh]
  simp only [Option.bind_some, if_true, hg, hs, ha, h3, if_pos p0]
  rw [if_pos q0, q1, q2]
  rw [pianolaref12_Encode.j2, if_neg (by omega), if_neg (by omega), if_pos h0, if_pos (show i < (Ps.length : Int) from h1)]
  simp only [hc, hs, ha, if_pos p0]
  rw [if_neg q3, if_pos p1, hz]
  simp only [Option.bind_some]
  rw [hW, wrap_lit i h0 (by omega)]
theorem step_take_s_bad (n sz at_ h m c : Int) (h0 : 0 ≤ i) (h1 : i < 11) (hc : (rd_T91 Ps i).f0 = c) (hh : pianolaref12_has.f (k + 1) rf c = some true) (hg : pianolaref12_Get.f x0 x1 x2 x3 x4 x5 x6 x7 c = some n)
    (hs : (rd_T91 Ps i).f2 = sz) (h3 : (rd_T91 Ps i).f3 = true)
    (p0 : 0 ≤ sz) (q0 : 0 ≤ wrap64 (sz - 1)) (q1 : wrap64 (-(shl .i64 1 (wrap64 (sz - 1)))) = -h) (q2 : wrap64 ((shl .i64 1 (wrap64 (sz - 1))) - 1) = h - 1)
    (r1 : ¬ (-h ≤ n ∧ n ≤ h - 1)) :
    L (k + 1 + 1) W i x0 x1 x2 x3 x4 x5 x6 x7 rw rf y0 y1 y2 y3 y4 y5 y6 y7 = some (0, false) := by
  unfold L
  rw [pianolaref12_Encode.l0, if_pos (show i < (Ps.length : Int) from h1), if_pos h0, hc, hh]
  simp only [Option.bind_some, if_true, hg, hs, h3, if_pos p0]
  rw [if_pos q0, q1, q2]
  rw [pianolaref12_Encode.j2]
  by_cases e : n < -h
  · rw [if_pos e]
  · rw [if_neg e, if_pos (by omega)]
theorem step_end : L (k + 1) W 11 x0 x1 x2 x3 x4 x5 x6 x7 rw rf y0 y1 y2 y3 y4 y5 y6 y7 = some (W, (y0 == x0 && (y1 == 0 && (y2 == 0 && (y3 == 0 && (y4 == 0 && (y5 == 0 && (y6 == 0 && (y7 == 0))))))))) := by
  unfold L
  rw [pianolaref12_Encode.l0, if_neg (by decide)]
end
/-- A field as the reference puts it. -/
theorem ref_or (W n : Int) (s i : Nat) (hi : i ≤ 31) (hs : s ≤ 31) (h0 : 0 ≤ W) (h1 : W < 4294967296) (hl : W % (2 ^ (i + s) : Nat) < (2 ^ i : Nat)) (hn1 : -9223372036854775808 ≤ n) (hn2 : n < 9223372036854775808) (p : Int) (hp : (2 : Int) ^ s = p) (q : Int) (hq : (2 : Int) ^ i = q) (hS : W + q * (n % p) < 4294967296) :
    Go.bits .or .u32 W (shl .u32 ((Int.tmod (IntKind.u64.wrap n) (shl .u64 1 s)) % 4294967296) i) = W + q * (n % p) := by
  have hpn : p = ((2 ^ s : Nat) : Int) := by rw [← hp]; push_cast; rfl
  have hqn : q = ((2 ^ i : Nat) : Int) := by rw [← hq]; push_cast; rfl
  have hps : 0 < 2 ^ s := Nat.two_pow_pos s
  have hs31 : 2 ^ s ≤ 2 ^ 31 := Nat.pow_le_pow_right (by decide) hs
  have hqs : 0 < 2 ^ i := Nat.two_pow_pos i
  have e1 : shl .u64 1 (s : Int) = p := by
    unfold shl
    rw [show min ((s : Int)).toNat IntKind.u64.bits = s from by have : IntKind.u64.bits = 64 := rfl; omega, Int.one_mul, hp]
    rw [show IntKind.u64.wrap p = p % 18446744073709551616 from by simp [IntKind.wrap, IntKind.bits, IntKind.signed]]
    omega
  have e2 : IntKind.u64.wrap n = n % 18446744073709551616 := by simp [IntKind.wrap, IntKind.bits, IntKind.signed]
  have e3 : Int.tmod (n % 18446744073709551616) p = n % p := by
    rw [Int.tmod_eq_emod_of_nonneg (by omega)]
    have hd : p ∣ 18446744073709551616 := by
      rw [← hp]
      have : (18446744073709551616 : Int) = 2 ^ s * 2 ^ (64 - s) := by rw [← Int.pow_add, show s + (64 - s) = 64 from by omega]; decide
      rw [this]
      exact Int.dvd_mul_right _ _
    exact Int.emod_emod_of_dvd n hd
  have hm0 : 0 ≤ n % p := Int.emod_nonneg n (by omega)
  have hm1 : n % p < p := Int.emod_lt_of_pos n (by omega)
  rw [e1, e2, e3, show n % p % 4294967296 = n % p from by omega]
  have e4 : shl .u32 (n % p) (i : Int) = q * (n % p) := by
    unfold shl
    rw [show min ((i : Int)).toNat IntKind.u32.bits = i from by have : IntKind.u32.bits = 32 := rfl; omega, hq, Int.mul_comm]
    rw [IntKind.wrap_u32]
    have : 0 ≤ q * (n % p) := Int.mul_nonneg (by omega) hm0
    omega
  rw [e4]
  obtain ⟨v, hv⟩ := Int.eq_ofNat_of_zero_le hm0
  have hc : q * (n % p) = ((2 ^ i * v : Nat) : Int) := by rw [hv, hqn]; push_cast; rfl
  have : 0 ≤ q * (n % p) := Int.mul_nonneg (by omega) hm0
  exact or32 W _ s i h0 h1 hl v (by omega) hc (by omega) hS
set_option maxHeartbeats 2000000 in
theorem refl4 (rd rn rm ra imm shift cond : Int) (w1 : -9223372036854775808 ≤ rd ∧ rd < 9223372036854775808) (w2 : -9223372036854775808 ≤ rn ∧ rn < 9223372036854775808) (w3 : -9223372036854775808 ≤ rm ∧ rm < 9223372036854775808) (w4 : -9223372036854775808 ≤ ra ∧ ra < 9223372036854775808) (w5 : -9223372036854775808 ≤ imm ∧ imm < 9223372036854775808) (w6 : -9223372036854775808 ≤ shift ∧ shift < 9223372036854775808) (w7 : -9223372036854775808 ≤ cond ∧ cond < 9223372036854775808) :
    (CRI rd rn rm ra imm shift cond → L 40 2432696320 0 4 rd rn rm ra imm shift cond 2432696320 (⟨#[100, 110, 105]⟩ : ByteArray) 4 rd rn rm ra imm shift cond = some (VRI 2432696320 rd rn rm ra imm shift cond, true)) ∧ (¬ CRI rd rn rm ra imm shift cond → ∃ v, L 40 2432696320 0 4 rd rn rm ra imm shift cond 2432696320 (⟨#[100, 110, 105]⟩ : ByteArray) 4 rd rn rm ra imm shift cond = some (v, false)) := by
  unfold CRI VRI
  by_cases hrrd : 0 ≤ rd ∧ rd ≤ 31
  case neg => (have hr := hrrd; rw [step_take_u_bad 38 (2432696320) 0 4 rd rn rm ra imm shift cond 2432696320 (⟨#[100, 110, 105]⟩ : ByteArray) 4 rd rn rm ra imm shift cond rd 5 0 16 31 100 (by decide) (by decide) rfl (by decide +kernel) rfl rfl rfl (by decide) (by decide +kernel) hr]; exact ⟨fun h => by omega, fun _ => ⟨0, rfl⟩⟩)
  rw [step_take_u 38 (2432696320) 0 4 rd rn rm ra imm shift cond 2432696320 (⟨#[100, 110, 105]⟩ : ByteArray) 4 rd rn rm ra imm shift cond 1 rfl rd 5 0 16 31 100 (2432696320 + 1 * (rd % 32)) 4 0 rn rm ra imm shift cond (by decide) (by decide) rfl (by decide +kernel) rfl rfl rfl rfl rfl (by decide) (by decide) (by decide +kernel) (by decide +kernel) ((ref_or (2432696320) rd 5 0 (by decide) (by decide) (by omega) (by omega) (by simp only [Nat.reduceAdd, Nat.reducePow]; omega) (by omega) (by omega) 32 (by decide) 1 (by decide) (by omega))) (by omega) (by omega)]
  by_cases hrrn : 0 ≤ rn ∧ rn ≤ 31
  case neg => (have hr := hrrn; rw [step_take_u_bad 36 (2432696320 + 1 * (rd % 32)) 1 4 rd rn rm ra imm shift cond 2432696320 (⟨#[100, 110, 105]⟩ : ByteArray) 4 0 rn rm ra imm shift cond rn 5 5 16 31 110 (by decide) (by decide) rfl (by decide +kernel) rfl rfl rfl (by decide) (by decide +kernel) hr]; exact ⟨fun h => by omega, fun _ => ⟨0, rfl⟩⟩)
  rw [step_take_u 36 (2432696320 + 1 * (rd % 32)) 1 4 rd rn rm ra imm shift cond 2432696320 (⟨#[100, 110, 105]⟩ : ByteArray) 4 0 rn rm ra imm shift cond 2 rfl rn 5 5 16 31 110 (2432696320 + 1 * (rd % 32) + 32 * (rn % 32)) 4 0 0 rm ra imm shift cond (by decide) (by decide) rfl (by decide +kernel) rfl rfl rfl rfl rfl (by decide) (by decide) (by decide +kernel) (by decide +kernel) ((ref_or (2432696320 + 1 * (rd % 32)) rn 5 5 (by decide) (by decide) (by omega) (by omega) (by simp only [Nat.reduceAdd, Nat.reducePow]; omega) (by omega) (by omega) 32 (by decide) 32 (by decide) (by omega))) (by omega) (by omega)]
  rw [show L 36 = L (34 + 2) from rfl, skip_run (2432696320 + 1 * (rd % 32) + 32 * (rn % 32)) 4 rd rn rm ra imm shift cond 2432696320 (⟨#[100, 110, 105]⟩ : ByteArray) 4 0 0 rm ra imm shift cond 2 34 2 4 rfl (by decide) (by decide) (by decide +kernel)]
  by_cases hrimm : 0 ≤ imm ∧ imm ≤ 4095
  case neg => (have hr := hrimm; rw [step_take_u_bad 32 (2432696320 + 1 * (rd % 32) + 32 * (rn % 32)) 4 4 rd rn rm ra imm shift cond 2432696320 (⟨#[100, 110, 105]⟩ : ByteArray) 4 0 0 rm ra imm shift cond imm 12 10 2048 4095 105 (by decide) (by decide) rfl (by decide +kernel) rfl rfl rfl (by decide) (by decide +kernel) hr]; exact ⟨fun h => by omega, fun _ => ⟨0, rfl⟩⟩)
  rw [step_take_u 32 (2432696320 + 1 * (rd % 32) + 32 * (rn % 32)) 4 4 rd rn rm ra imm shift cond 2432696320 (⟨#[100, 110, 105]⟩ : ByteArray) 4 0 0 rm ra imm shift cond 5 rfl imm 12 10 2048 4095 105 (2432696320 + 1 * (rd % 32) + 32 * (rn % 32) + 1024 * (imm % 4096)) 4 0 0 rm ra 0 shift cond (by decide) (by decide) rfl (by decide +kernel) rfl rfl rfl rfl rfl (by decide) (by decide) (by decide +kernel) (by decide +kernel) ((ref_or (2432696320 + 1 * (rd % 32) + 32 * (rn % 32)) imm 12 10 (by decide) (by decide) (by omega) (by omega) (by simp only [Nat.reduceAdd, Nat.reducePow]; omega) (by omega) (by omega) 4096 (by decide) 1024 (by decide) (by omega))) (by omega) (by omega)]
  rw [show L 32 = L (26 + 6) from rfl, skip_run (2432696320 + 1 * (rd % 32) + 32 * (rn % 32) + 1024 * (imm % 4096)) 4 rd rn rm ra imm shift cond 2432696320 (⟨#[100, 110, 105]⟩ : ByteArray) 4 0 0 rm ra 0 shift cond 6 26 5 11 rfl (by decide) (by decide) (by decide +kernel)]
  rw [step_end]
  refine ⟨fun h => ?_, fun h => ⟨_, congrArg some (Prod.ext rfl ?_)⟩⟩
  · simp only [Option.some.injEq, Prod.mk.injEq, Bool.and_eq_true, beq_iff_eq, and_true, true_and]
    omega
  · simp only [Bool.and_eq_false_iff, beq_eq_false_iff_ne]
    omega
set_option maxHeartbeats 2000000 in
theorem refl5 (rd rn rm ra imm shift cond : Int) (w1 : -9223372036854775808 ≤ rd ∧ rd < 9223372036854775808) (w2 : -9223372036854775808 ≤ rn ∧ rn < 9223372036854775808) (w3 : -9223372036854775808 ≤ rm ∧ rm < 9223372036854775808) (w4 : -9223372036854775808 ≤ ra ∧ ra < 9223372036854775808) (w5 : -9223372036854775808 ≤ imm ∧ imm < 9223372036854775808) (w6 : -9223372036854775808 ≤ shift ∧ shift < 9223372036854775808) (w7 : -9223372036854775808 ≤ cond ∧ cond < 9223372036854775808) :
    (CRI rd rn rm ra imm shift cond → L 40 3506438144 0 5 rd rn rm ra imm shift cond 3506438144 (⟨#[100, 110, 105]⟩ : ByteArray) 5 rd rn rm ra imm shift cond = some (VRI 3506438144 rd rn rm ra imm shift cond, true)) ∧ (¬ CRI rd rn rm ra imm shift cond → ∃ v, L 40 3506438144 0 5 rd rn rm ra imm shift cond 3506438144 (⟨#[100, 110, 105]⟩ : ByteArray) 5 rd rn rm ra imm shift cond = some (v, false)) := by
  unfold CRI VRI
  by_cases hrrd : 0 ≤ rd ∧ rd ≤ 31
  case neg => (have hr := hrrd; rw [step_take_u_bad 38 (3506438144) 0 5 rd rn rm ra imm shift cond 3506438144 (⟨#[100, 110, 105]⟩ : ByteArray) 5 rd rn rm ra imm shift cond rd 5 0 16 31 100 (by decide) (by decide) rfl (by decide +kernel) rfl rfl rfl (by decide) (by decide +kernel) hr]; exact ⟨fun h => by omega, fun _ => ⟨0, rfl⟩⟩)
  rw [step_take_u 38 (3506438144) 0 5 rd rn rm ra imm shift cond 3506438144 (⟨#[100, 110, 105]⟩ : ByteArray) 5 rd rn rm ra imm shift cond 1 rfl rd 5 0 16 31 100 (3506438144 + 1 * (rd % 32)) 5 0 rn rm ra imm shift cond (by decide) (by decide) rfl (by decide +kernel) rfl rfl rfl rfl rfl (by decide) (by decide) (by decide +kernel) (by decide +kernel) ((ref_or (3506438144) rd 5 0 (by decide) (by decide) (by omega) (by omega) (by simp only [Nat.reduceAdd, Nat.reducePow]; omega) (by omega) (by omega) 32 (by decide) 1 (by decide) (by omega))) (by omega) (by omega)]
  by_cases hrrn : 0 ≤ rn ∧ rn ≤ 31
  case neg => (have hr := hrrn; rw [step_take_u_bad 36 (3506438144 + 1 * (rd % 32)) 1 5 rd rn rm ra imm shift cond 3506438144 (⟨#[100, 110, 105]⟩ : ByteArray) 5 0 rn rm ra imm shift cond rn 5 5 16 31 110 (by decide) (by decide) rfl (by decide +kernel) rfl rfl rfl (by decide) (by decide +kernel) hr]; exact ⟨fun h => by omega, fun _ => ⟨0, rfl⟩⟩)
  rw [step_take_u 36 (3506438144 + 1 * (rd % 32)) 1 5 rd rn rm ra imm shift cond 3506438144 (⟨#[100, 110, 105]⟩ : ByteArray) 5 0 rn rm ra imm shift cond 2 rfl rn 5 5 16 31 110 (3506438144 + 1 * (rd % 32) + 32 * (rn % 32)) 5 0 0 rm ra imm shift cond (by decide) (by decide) rfl (by decide +kernel) rfl rfl rfl rfl rfl (by decide) (by decide) (by decide +kernel) (by decide +kernel) ((ref_or (3506438144 + 1 * (rd % 32)) rn 5 5 (by decide) (by decide) (by omega) (by omega) (by simp only [Nat.reduceAdd, Nat.reducePow]; omega) (by omega) (by omega) 32 (by decide) 32 (by decide) (by omega))) (by omega) (by omega)]
  rw [show L 36 = L (34 + 2) from rfl, skip_run (3506438144 + 1 * (rd % 32) + 32 * (rn % 32)) 5 rd rn rm ra imm shift cond 3506438144 (⟨#[100, 110, 105]⟩ : ByteArray) 5 0 0 rm ra imm shift cond 2 34 2 4 rfl (by decide) (by decide) (by decide +kernel)]
  by_cases hrimm : 0 ≤ imm ∧ imm ≤ 4095
  case neg => (have hr := hrimm; rw [step_take_u_bad 32 (3506438144 + 1 * (rd % 32) + 32 * (rn % 32)) 4 5 rd rn rm ra imm shift cond 3506438144 (⟨#[100, 110, 105]⟩ : ByteArray) 5 0 0 rm ra imm shift cond imm 12 10 2048 4095 105 (by decide) (by decide) rfl (by decide +kernel) rfl rfl rfl (by decide) (by decide +kernel) hr]; exact ⟨fun h => by omega, fun _ => ⟨0, rfl⟩⟩)
  rw [step_take_u 32 (3506438144 + 1 * (rd % 32) + 32 * (rn % 32)) 4 5 rd rn rm ra imm shift cond 3506438144 (⟨#[100, 110, 105]⟩ : ByteArray) 5 0 0 rm ra imm shift cond 5 rfl imm 12 10 2048 4095 105 (3506438144 + 1 * (rd % 32) + 32 * (rn % 32) + 1024 * (imm % 4096)) 5 0 0 rm ra 0 shift cond (by decide) (by decide) rfl (by decide +kernel) rfl rfl rfl rfl rfl (by decide) (by decide) (by decide +kernel) (by decide +kernel) ((ref_or (3506438144 + 1 * (rd % 32) + 32 * (rn % 32)) imm 12 10 (by decide) (by decide) (by omega) (by omega) (by simp only [Nat.reduceAdd, Nat.reducePow]; omega) (by omega) (by omega) 4096 (by decide) 1024 (by decide) (by omega))) (by omega) (by omega)]
  rw [show L 32 = L (26 + 6) from rfl, skip_run (3506438144 + 1 * (rd % 32) + 32 * (rn % 32) + 1024 * (imm % 4096)) 5 rd rn rm ra imm shift cond 3506438144 (⟨#[100, 110, 105]⟩ : ByteArray) 5 0 0 rm ra 0 shift cond 6 26 5 11 rfl (by decide) (by decide) (by decide +kernel)]
  rw [step_end]
  refine ⟨fun h => ?_, fun h => ⟨_, congrArg some (Prod.ext rfl ?_)⟩⟩
  · simp only [Option.some.injEq, Prod.mk.injEq, Bool.and_eq_true, beq_iff_eq, and_true, true_and]
    omega
  · simp only [Bool.and_eq_false_iff, beq_eq_false_iff_ne]
    omega
set_option maxHeartbeats 2000000 in
theorem refl6 (rd rn rm ra imm shift cond : Int) (w1 : -9223372036854775808 ≤ rd ∧ rd < 9223372036854775808) (w2 : -9223372036854775808 ≤ rn ∧ rn < 9223372036854775808) (w3 : -9223372036854775808 ≤ rm ∧ rm < 9223372036854775808) (w4 : -9223372036854775808 ≤ ra ∧ ra < 9223372036854775808) (w5 : -9223372036854775808 ≤ imm ∧ imm < 9223372036854775808) (w6 : -9223372036854775808 ≤ shift ∧ shift < 9223372036854775808) (w7 : -9223372036854775808 ≤ cond ∧ cond < 9223372036854775808) :
    (CRI rd rn rm ra imm shift cond → L 40 4043309056 0 6 rd rn rm ra imm shift cond 4043309056 (⟨#[100, 110, 105]⟩ : ByteArray) 6 rd rn rm ra imm shift cond = some (VRI 4043309056 rd rn rm ra imm shift cond, true)) ∧ (¬ CRI rd rn rm ra imm shift cond → ∃ v, L 40 4043309056 0 6 rd rn rm ra imm shift cond 4043309056 (⟨#[100, 110, 105]⟩ : ByteArray) 6 rd rn rm ra imm shift cond = some (v, false)) := by
  unfold CRI VRI
  by_cases hrrd : 0 ≤ rd ∧ rd ≤ 31
  case neg => (have hr := hrrd; rw [step_take_u_bad 38 (4043309056) 0 6 rd rn rm ra imm shift cond 4043309056 (⟨#[100, 110, 105]⟩ : ByteArray) 6 rd rn rm ra imm shift cond rd 5 0 16 31 100 (by decide) (by decide) rfl (by decide +kernel) rfl rfl rfl (by decide) (by decide +kernel) hr]; exact ⟨fun h => by omega, fun _ => ⟨0, rfl⟩⟩)
  rw [step_take_u 38 (4043309056) 0 6 rd rn rm ra imm shift cond 4043309056 (⟨#[100, 110, 105]⟩ : ByteArray) 6 rd rn rm ra imm shift cond 1 rfl rd 5 0 16 31 100 (4043309056 + 1 * (rd % 32)) 6 0 rn rm ra imm shift cond (by decide) (by decide) rfl (by decide +kernel) rfl rfl rfl rfl rfl (by decide) (by decide) (by decide +kernel) (by decide +kernel) ((ref_or (4043309056) rd 5 0 (by decide) (by decide) (by omega) (by omega) (by simp only [Nat.reduceAdd, Nat.reducePow]; omega) (by omega) (by omega) 32 (by decide) 1 (by decide) (by omega))) (by omega) (by omega)]
  by_cases hrrn : 0 ≤ rn ∧ rn ≤ 31
  case neg => (have hr := hrrn; rw [step_take_u_bad 36 (4043309056 + 1 * (rd % 32)) 1 6 rd rn rm ra imm shift cond 4043309056 (⟨#[100, 110, 105]⟩ : ByteArray) 6 0 rn rm ra imm shift cond rn 5 5 16 31 110 (by decide) (by decide) rfl (by decide +kernel) rfl rfl rfl (by decide) (by decide +kernel) hr]; exact ⟨fun h => by omega, fun _ => ⟨0, rfl⟩⟩)
  rw [step_take_u 36 (4043309056 + 1 * (rd % 32)) 1 6 rd rn rm ra imm shift cond 4043309056 (⟨#[100, 110, 105]⟩ : ByteArray) 6 0 rn rm ra imm shift cond 2 rfl rn 5 5 16 31 110 (4043309056 + 1 * (rd % 32) + 32 * (rn % 32)) 6 0 0 rm ra imm shift cond (by decide) (by decide) rfl (by decide +kernel) rfl rfl rfl rfl rfl (by decide) (by decide) (by decide +kernel) (by decide +kernel) ((ref_or (4043309056 + 1 * (rd % 32)) rn 5 5 (by decide) (by decide) (by omega) (by omega) (by simp only [Nat.reduceAdd, Nat.reducePow]; omega) (by omega) (by omega) 32 (by decide) 32 (by decide) (by omega))) (by omega) (by omega)]
  rw [show L 36 = L (34 + 2) from rfl, skip_run (4043309056 + 1 * (rd % 32) + 32 * (rn % 32)) 6 rd rn rm ra imm shift cond 4043309056 (⟨#[100, 110, 105]⟩ : ByteArray) 6 0 0 rm ra imm shift cond 2 34 2 4 rfl (by decide) (by decide) (by decide +kernel)]
  by_cases hrimm : 0 ≤ imm ∧ imm ≤ 4095
  case neg => (have hr := hrimm; rw [step_take_u_bad 32 (4043309056 + 1 * (rd % 32) + 32 * (rn % 32)) 4 6 rd rn rm ra imm shift cond 4043309056 (⟨#[100, 110, 105]⟩ : ByteArray) 6 0 0 rm ra imm shift cond imm 12 10 2048 4095 105 (by decide) (by decide) rfl (by decide +kernel) rfl rfl rfl (by decide) (by decide +kernel) hr]; exact ⟨fun h => by omega, fun _ => ⟨0, rfl⟩⟩)
  rw [step_take_u 32 (4043309056 + 1 * (rd % 32) + 32 * (rn % 32)) 4 6 rd rn rm ra imm shift cond 4043309056 (⟨#[100, 110, 105]⟩ : ByteArray) 6 0 0 rm ra imm shift cond 5 rfl imm 12 10 2048 4095 105 (4043309056 + 1 * (rd % 32) + 32 * (rn % 32) + 1024 * (imm % 4096)) 6 0 0 rm ra 0 shift cond (by decide) (by decide) rfl (by decide +kernel) rfl rfl rfl rfl rfl (by decide) (by decide) (by decide +kernel) (by decide +kernel) ((ref_or (4043309056 + 1 * (rd % 32) + 32 * (rn % 32)) imm 12 10 (by decide) (by decide) (by omega) (by omega) (by simp only [Nat.reduceAdd, Nat.reducePow]; omega) (by omega) (by omega) 4096 (by decide) 1024 (by decide) (by omega))) (by omega) (by omega)]
  rw [show L 32 = L (26 + 6) from rfl, skip_run (4043309056 + 1 * (rd % 32) + 32 * (rn % 32) + 1024 * (imm % 4096)) 6 rd rn rm ra imm shift cond 4043309056 (⟨#[100, 110, 105]⟩ : ByteArray) 6 0 0 rm ra 0 shift cond 6 26 5 11 rfl (by decide) (by decide) (by decide +kernel)]
  rw [step_end]
  refine ⟨fun h => ?_, fun h => ⟨_, congrArg some (Prod.ext rfl ?_)⟩⟩
  · simp only [Option.some.injEq, Prod.mk.injEq, Bool.and_eq_true, beq_iff_eq, and_true, true_and]
    omega
  · simp only [Bool.and_eq_false_iff, beq_eq_false_iff_ne]
    omega
set_option maxHeartbeats 2000000 in
theorem refl19 (rd rn rm ra imm shift cond : Int) (w1 : -9223372036854775808 ≤ rd ∧ rd < 9223372036854775808) (w2 : -9223372036854775808 ≤ rn ∧ rn < 9223372036854775808) (w3 : -9223372036854775808 ≤ rm ∧ rm < 9223372036854775808) (w4 : -9223372036854775808 ≤ ra ∧ ra < 9223372036854775808) (w5 : -9223372036854775808 ≤ imm ∧ imm < 9223372036854775808) (w6 : -9223372036854775808 ≤ shift ∧ shift < 9223372036854775808) (w7 : -9223372036854775808 ≤ cond ∧ cond < 9223372036854775808) :
    (CRI rd rn rm ra imm shift cond → L 40 4181721088 0 19 rd rn rm ra imm shift cond 4181721088 (⟨#[100, 110, 105]⟩ : ByteArray) 19 rd rn rm ra imm shift cond = some (VRI 4181721088 rd rn rm ra imm shift cond, true)) ∧ (¬ CRI rd rn rm ra imm shift cond → ∃ v, L 40 4181721088 0 19 rd rn rm ra imm shift cond 4181721088 (⟨#[100, 110, 105]⟩ : ByteArray) 19 rd rn rm ra imm shift cond = some (v, false)) := by
  unfold CRI VRI
  by_cases hrrd : 0 ≤ rd ∧ rd ≤ 31
  case neg => (have hr := hrrd; rw [step_take_u_bad 38 (4181721088) 0 19 rd rn rm ra imm shift cond 4181721088 (⟨#[100, 110, 105]⟩ : ByteArray) 19 rd rn rm ra imm shift cond rd 5 0 16 31 100 (by decide) (by decide) rfl (by decide +kernel) rfl rfl rfl (by decide) (by decide +kernel) hr]; exact ⟨fun h => by omega, fun _ => ⟨0, rfl⟩⟩)
  rw [step_take_u 38 (4181721088) 0 19 rd rn rm ra imm shift cond 4181721088 (⟨#[100, 110, 105]⟩ : ByteArray) 19 rd rn rm ra imm shift cond 1 rfl rd 5 0 16 31 100 (4181721088 + 1 * (rd % 32)) 19 0 rn rm ra imm shift cond (by decide) (by decide) rfl (by decide +kernel) rfl rfl rfl rfl rfl (by decide) (by decide) (by decide +kernel) (by decide +kernel) ((ref_or (4181721088) rd 5 0 (by decide) (by decide) (by omega) (by omega) (by simp only [Nat.reduceAdd, Nat.reducePow]; omega) (by omega) (by omega) 32 (by decide) 1 (by decide) (by omega))) (by omega) (by omega)]
  by_cases hrrn : 0 ≤ rn ∧ rn ≤ 31
  case neg => (have hr := hrrn; rw [step_take_u_bad 36 (4181721088 + 1 * (rd % 32)) 1 19 rd rn rm ra imm shift cond 4181721088 (⟨#[100, 110, 105]⟩ : ByteArray) 19 0 rn rm ra imm shift cond rn 5 5 16 31 110 (by decide) (by decide) rfl (by decide +kernel) rfl rfl rfl (by decide) (by decide +kernel) hr]; exact ⟨fun h => by omega, fun _ => ⟨0, rfl⟩⟩)
  rw [step_take_u 36 (4181721088 + 1 * (rd % 32)) 1 19 rd rn rm ra imm shift cond 4181721088 (⟨#[100, 110, 105]⟩ : ByteArray) 19 0 rn rm ra imm shift cond 2 rfl rn 5 5 16 31 110 (4181721088 + 1 * (rd % 32) + 32 * (rn % 32)) 19 0 0 rm ra imm shift cond (by decide) (by decide) rfl (by decide +kernel) rfl rfl rfl rfl rfl (by decide) (by decide) (by decide +kernel) (by decide +kernel) ((ref_or (4181721088 + 1 * (rd % 32)) rn 5 5 (by decide) (by decide) (by omega) (by omega) (by simp only [Nat.reduceAdd, Nat.reducePow]; omega) (by omega) (by omega) 32 (by decide) 32 (by decide) (by omega))) (by omega) (by omega)]
  rw [show L 36 = L (34 + 2) from rfl, skip_run (4181721088 + 1 * (rd % 32) + 32 * (rn % 32)) 19 rd rn rm ra imm shift cond 4181721088 (⟨#[100, 110, 105]⟩ : ByteArray) 19 0 0 rm ra imm shift cond 2 34 2 4 rfl (by decide) (by decide) (by decide +kernel)]
  by_cases hrimm : 0 ≤ imm ∧ imm ≤ 4095
  case neg => (have hr := hrimm; rw [step_take_u_bad 32 (4181721088 + 1 * (rd % 32) + 32 * (rn % 32)) 4 19 rd rn rm ra imm shift cond 4181721088 (⟨#[100, 110, 105]⟩ : ByteArray) 19 0 0 rm ra imm shift cond imm 12 10 2048 4095 105 (by decide) (by decide) rfl (by decide +kernel) rfl rfl rfl (by decide) (by decide +kernel) hr]; exact ⟨fun h => by omega, fun _ => ⟨0, rfl⟩⟩)
  rw [step_take_u 32 (4181721088 + 1 * (rd % 32) + 32 * (rn % 32)) 4 19 rd rn rm ra imm shift cond 4181721088 (⟨#[100, 110, 105]⟩ : ByteArray) 19 0 0 rm ra imm shift cond 5 rfl imm 12 10 2048 4095 105 (4181721088 + 1 * (rd % 32) + 32 * (rn % 32) + 1024 * (imm % 4096)) 19 0 0 rm ra 0 shift cond (by decide) (by decide) rfl (by decide +kernel) rfl rfl rfl rfl rfl (by decide) (by decide) (by decide +kernel) (by decide +kernel) ((ref_or (4181721088 + 1 * (rd % 32) + 32 * (rn % 32)) imm 12 10 (by decide) (by decide) (by omega) (by omega) (by simp only [Nat.reduceAdd, Nat.reducePow]; omega) (by omega) (by omega) 4096 (by decide) 1024 (by decide) (by omega))) (by omega) (by omega)]
  rw [show L 32 = L (26 + 6) from rfl, skip_run (4181721088 + 1 * (rd % 32) + 32 * (rn % 32) + 1024 * (imm % 4096)) 19 rd rn rm ra imm shift cond 4181721088 (⟨#[100, 110, 105]⟩ : ByteArray) 19 0 0 rm ra 0 shift cond 6 26 5 11 rfl (by decide) (by decide) (by decide +kernel)]
  rw [step_end]
  refine ⟨fun h => ?_, fun h => ⟨_, congrArg some (Prod.ext rfl ?_)⟩⟩
  · simp only [Option.some.injEq, Prod.mk.injEq, Bool.and_eq_true, beq_iff_eq, and_true, true_and]
    omega
  · simp only [Bool.and_eq_false_iff, beq_eq_false_iff_ne]
    omega
set_option maxHeartbeats 2000000 in
theorem refl20 (rd rn rm ra imm shift cond : Int) (w1 : -9223372036854775808 ≤ rd ∧ rd < 9223372036854775808) (w2 : -9223372036854775808 ≤ rn ∧ rn < 9223372036854775808) (w3 : -9223372036854775808 ≤ rm ∧ rm < 9223372036854775808) (w4 : -9223372036854775808 ≤ ra ∧ ra < 9223372036854775808) (w5 : -9223372036854775808 ≤ imm ∧ imm < 9223372036854775808) (w6 : -9223372036854775808 ≤ shift ∧ shift < 9223372036854775808) (w7 : -9223372036854775808 ≤ cond ∧ cond < 9223372036854775808) :
    (CRI rd rn rm ra imm shift cond → L 40 4177526784 0 20 rd rn rm ra imm shift cond 4177526784 (⟨#[100, 110, 105]⟩ : ByteArray) 20 rd rn rm ra imm shift cond = some (VRI 4177526784 rd rn rm ra imm shift cond, true)) ∧ (¬ CRI rd rn rm ra imm shift cond → ∃ v, L 40 4177526784 0 20 rd rn rm ra imm shift cond 4177526784 (⟨#[100, 110, 105]⟩ : ByteArray) 20 rd rn rm ra imm shift cond = some (v, false)) := by
  unfold CRI VRI
  by_cases hrrd : 0 ≤ rd ∧ rd ≤ 31
  case neg => (have hr := hrrd; rw [step_take_u_bad 38 (4177526784) 0 20 rd rn rm ra imm shift cond 4177526784 (⟨#[100, 110, 105]⟩ : ByteArray) 20 rd rn rm ra imm shift cond rd 5 0 16 31 100 (by decide) (by decide) rfl (by decide +kernel) rfl rfl rfl (by decide) (by decide +kernel) hr]; exact ⟨fun h => by omega, fun _ => ⟨0, rfl⟩⟩)
  rw [step_take_u 38 (4177526784) 0 20 rd rn rm ra imm shift cond 4177526784 (⟨#[100, 110, 105]⟩ : ByteArray) 20 rd rn rm ra imm shift cond 1 rfl rd 5 0 16 31 100 (4177526784 + 1 * (rd % 32)) 20 0 rn rm ra imm shift cond (by decide) (by decide) rfl (by decide +kernel) rfl rfl rfl rfl rfl (by decide) (by decide) (by decide +kernel) (by decide +kernel) ((ref_or (4177526784) rd 5 0 (by decide) (by decide) (by omega) (by omega) (by simp only [Nat.reduceAdd, Nat.reducePow]; omega) (by omega) (by omega) 32 (by decide) 1 (by decide) (by omega))) (by omega) (by omega)]
  by_cases hrrn : 0 ≤ rn ∧ rn ≤ 31
  case neg => (have hr := hrrn; rw [step_take_u_bad 36 (4177526784 + 1 * (rd % 32)) 1 20 rd rn rm ra imm shift cond 4177526784 (⟨#[100, 110, 105]⟩ : ByteArray) 20 0 rn rm ra imm shift cond rn 5 5 16 31 110 (by decide) (by decide) rfl (by decide +kernel) rfl rfl rfl (by decide) (by decide +kernel) hr]; exact ⟨fun h => by omega, fun _ => ⟨0, rfl⟩⟩)
  rw [step_take_u 36 (4177526784 + 1 * (rd % 32)) 1 20 rd rn rm ra imm shift cond 4177526784 (⟨#[100, 110, 105]⟩ : ByteArray) 20 0 rn rm ra imm shift cond 2 rfl rn 5 5 16 31 110 (4177526784 + 1 * (rd % 32) + 32 * (rn % 32)) 20 0 0 rm ra imm shift cond (by decide) (by decide) rfl (by decide +kernel) rfl rfl rfl rfl rfl (by decide) (by decide) (by decide +kernel) (by decide +kernel) ((ref_or (4177526784 + 1 * (rd % 32)) rn 5 5 (by decide) (by decide) (by omega) (by omega) (by simp only [Nat.reduceAdd, Nat.reducePow]; omega) (by omega) (by omega) 32 (by decide) 32 (by decide) (by omega))) (by omega) (by omega)]
  rw [show L 36 = L (34 + 2) from rfl, skip_run (4177526784 + 1 * (rd % 32) + 32 * (rn % 32)) 20 rd rn rm ra imm shift cond 4177526784 (⟨#[100, 110, 105]⟩ : ByteArray) 20 0 0 rm ra imm shift cond 2 34 2 4 rfl (by decide) (by decide) (by decide +kernel)]
  by_cases hrimm : 0 ≤ imm ∧ imm ≤ 4095
  case neg => (have hr := hrimm; rw [step_take_u_bad 32 (4177526784 + 1 * (rd % 32) + 32 * (rn % 32)) 4 20 rd rn rm ra imm shift cond 4177526784 (⟨#[100, 110, 105]⟩ : ByteArray) 20 0 0 rm ra imm shift cond imm 12 10 2048 4095 105 (by decide) (by decide) rfl (by decide +kernel) rfl rfl rfl (by decide) (by decide +kernel) hr]; exact ⟨fun h => by omega, fun _ => ⟨0, rfl⟩⟩)
  rw [step_take_u 32 (4177526784 + 1 * (rd % 32) + 32 * (rn % 32)) 4 20 rd rn rm ra imm shift cond 4177526784 (⟨#[100, 110, 105]⟩ : ByteArray) 20 0 0 rm ra imm shift cond 5 rfl imm 12 10 2048 4095 105 (4177526784 + 1 * (rd % 32) + 32 * (rn % 32) + 1024 * (imm % 4096)) 20 0 0 rm ra 0 shift cond (by decide) (by decide) rfl (by decide +kernel) rfl rfl rfl rfl rfl (by decide) (by decide) (by decide +kernel) (by decide +kernel) ((ref_or (4177526784 + 1 * (rd % 32) + 32 * (rn % 32)) imm 12 10 (by decide) (by decide) (by omega) (by omega) (by simp only [Nat.reduceAdd, Nat.reducePow]; omega) (by omega) (by omega) 4096 (by decide) 1024 (by decide) (by omega))) (by omega) (by omega)]
  rw [show L 32 = L (26 + 6) from rfl, skip_run (4177526784 + 1 * (rd % 32) + 32 * (rn % 32) + 1024 * (imm % 4096)) 20 rd rn rm ra imm shift cond 4177526784 (⟨#[100, 110, 105]⟩ : ByteArray) 20 0 0 rm ra 0 shift cond 6 26 5 11 rfl (by decide) (by decide) (by decide +kernel)]
  rw [step_end]
  refine ⟨fun h => ?_, fun h => ⟨_, congrArg some (Prod.ext rfl ?_)⟩⟩
  · simp only [Option.some.injEq, Prod.mk.injEq, Bool.and_eq_true, beq_iff_eq, and_true, true_and]
    omega
  · simp only [Bool.and_eq_false_iff, beq_eq_false_iff_ne]
    omega
set_option maxHeartbeats 2000000 in
theorem refl11 (rd rn rm ra imm shift cond : Int) (w1 : -9223372036854775808 ≤ rd ∧ rd < 9223372036854775808) (w2 : -9223372036854775808 ≤ rn ∧ rn < 9223372036854775808) (w3 : -9223372036854775808 ≤ rm ∧ rm < 9223372036854775808) (w4 : -9223372036854775808 ≤ ra ∧ ra < 9223372036854775808) (w5 : -9223372036854775808 ≤ imm ∧ imm < 9223372036854775808) (w6 : -9223372036854775808 ≤ shift ∧ shift < 9223372036854775808) (w7 : -9223372036854775808 ≤ cond ∧ cond < 9223372036854775808) :
    (CR4 rd rn rm ra imm shift cond → L 40 2600468480 0 11 rd rn rm ra imm shift cond 2600468480 (⟨#[100, 110, 109, 97]⟩ : ByteArray) 11 rd rn rm ra imm shift cond = some (VR4 2600468480 rd rn rm ra imm shift cond, true)) ∧ (¬ CR4 rd rn rm ra imm shift cond → ∃ v, L 40 2600468480 0 11 rd rn rm ra imm shift cond 2600468480 (⟨#[100, 110, 109, 97]⟩ : ByteArray) 11 rd rn rm ra imm shift cond = some (v, false)) := by
  unfold CR4 VR4
  by_cases hrrd : 0 ≤ rd ∧ rd ≤ 31
  case neg => (have hr := hrrd; rw [step_take_u_bad 38 (2600468480) 0 11 rd rn rm ra imm shift cond 2600468480 (⟨#[100, 110, 109, 97]⟩ : ByteArray) 11 rd rn rm ra imm shift cond rd 5 0 16 31 100 (by decide) (by decide) rfl (by decide +kernel) rfl rfl rfl (by decide) (by decide +kernel) hr]; exact ⟨fun h => by omega, fun _ => ⟨0, rfl⟩⟩)
  rw [step_take_u 38 (2600468480) 0 11 rd rn rm ra imm shift cond 2600468480 (⟨#[100, 110, 109, 97]⟩ : ByteArray) 11 rd rn rm ra imm shift cond 1 rfl rd 5 0 16 31 100 (2600468480 + 1 * (rd % 32)) 11 0 rn rm ra imm shift cond (by decide) (by decide) rfl (by decide +kernel) rfl rfl rfl rfl rfl (by decide) (by decide) (by decide +kernel) (by decide +kernel) ((ref_or (2600468480) rd 5 0 (by decide) (by decide) (by omega) (by omega) (by simp only [Nat.reduceAdd, Nat.reducePow]; omega) (by omega) (by omega) 32 (by decide) 1 (by decide) (by omega))) (by omega) (by omega)]
  by_cases hrrn : 0 ≤ rn ∧ rn ≤ 31
  case neg => (have hr := hrrn; rw [step_take_u_bad 36 (2600468480 + 1 * (rd % 32)) 1 11 rd rn rm ra imm shift cond 2600468480 (⟨#[100, 110, 109, 97]⟩ : ByteArray) 11 0 rn rm ra imm shift cond rn 5 5 16 31 110 (by decide) (by decide) rfl (by decide +kernel) rfl rfl rfl (by decide) (by decide +kernel) hr]; exact ⟨fun h => by omega, fun _ => ⟨0, rfl⟩⟩)
  rw [step_take_u 36 (2600468480 + 1 * (rd % 32)) 1 11 rd rn rm ra imm shift cond 2600468480 (⟨#[100, 110, 109, 97]⟩ : ByteArray) 11 0 rn rm ra imm shift cond 2 rfl rn 5 5 16 31 110 (2600468480 + 1 * (rd % 32) + 32 * (rn % 32)) 11 0 0 rm ra imm shift cond (by decide) (by decide) rfl (by decide +kernel) rfl rfl rfl rfl rfl (by decide) (by decide) (by decide +kernel) (by decide +kernel) ((ref_or (2600468480 + 1 * (rd % 32)) rn 5 5 (by decide) (by decide) (by omega) (by omega) (by simp only [Nat.reduceAdd, Nat.reducePow]; omega) (by omega) (by omega) 32 (by decide) 32 (by decide) (by omega))) (by omega) (by omega)]
  by_cases hrrm : 0 ≤ rm ∧ rm ≤ 31
  case neg => (have hr := hrrm; rw [step_take_u_bad 34 (2600468480 + 1 * (rd % 32) + 32 * (rn % 32)) 2 11 rd rn rm ra imm shift cond 2600468480 (⟨#[100, 110, 109, 97]⟩ : ByteArray) 11 0 0 rm ra imm shift cond rm 5 16 16 31 109 (by decide) (by decide) rfl (by decide +kernel) rfl rfl rfl (by decide) (by decide +kernel) hr]; exact ⟨fun h => by omega, fun _ => ⟨0, rfl⟩⟩)
  rw [step_take_u 34 (2600468480 + 1 * (rd % 32) + 32 * (rn % 32)) 2 11 rd rn rm ra imm shift cond 2600468480 (⟨#[100, 110, 109, 97]⟩ : ByteArray) 11 0 0 rm ra imm shift cond 3 rfl rm 5 16 16 31 109 (2600468480 + 1 * (rd % 32) + 32 * (rn % 32) + 65536 * (rm % 32)) 11 0 0 0 ra imm shift cond (by decide) (by decide) rfl (by decide +kernel) rfl rfl rfl rfl rfl (by decide) (by decide) (by decide +kernel) (by decide +kernel) ((ref_or (2600468480 + 1 * (rd % 32) + 32 * (rn % 32)) rm 5 16 (by decide) (by decide) (by omega) (by omega) (by simp only [Nat.reduceAdd, Nat.reducePow]; omega) (by omega) (by omega) 32 (by decide) 65536 (by decide) (by omega))) (by omega) (by omega)]
  by_cases hrra : 0 ≤ ra ∧ ra ≤ 31
  case neg => (have hr := hrra; rw [step_take_u_bad 32 (2600468480 + 1 * (rd % 32) + 32 * (rn % 32) + 65536 * (rm % 32)) 3 11 rd rn rm ra imm shift cond 2600468480 (⟨#[100, 110, 109, 97]⟩ : ByteArray) 11 0 0 0 ra imm shift cond ra 5 10 16 31 97 (by decide) (by decide) rfl (by decide +kernel) rfl rfl rfl (by decide) (by decide +kernel) hr]; exact ⟨fun h => by omega, fun _ => ⟨0, rfl⟩⟩)
  rw [step_take_u 32 (2600468480 + 1 * (rd % 32) + 32 * (rn % 32) + 65536 * (rm % 32)) 3 11 rd rn rm ra imm shift cond 2600468480 (⟨#[100, 110, 109, 97]⟩ : ByteArray) 11 0 0 0 ra imm shift cond 4 rfl ra 5 10 16 31 97 (2600468480 + 1 * (rd % 32) + 32 * (rn % 32) + 65536 * (rm % 32) + 1024 * (ra % 32)) 11 0 0 0 0 imm shift cond (by decide) (by decide) rfl (by decide +kernel) rfl rfl rfl rfl rfl (by decide) (by decide) (by decide +kernel) (by decide +kernel) ((ref_or (2600468480 + 1 * (rd % 32) + 32 * (rn % 32) + 65536 * (rm % 32)) ra 5 10 (by decide) (by decide) (by omega) (by omega) (by simp only [Nat.reduceAdd, Nat.reducePow]; omega) (by omega) (by omega) 32 (by decide) 1024 (by decide) (by omega))) (by omega) (by omega)]
  rw [show L 32 = L (25 + 7) from rfl, skip_run (2600468480 + 1 * (rd % 32) + 32 * (rn % 32) + 65536 * (rm % 32) + 1024 * (ra % 32)) 11 rd rn rm ra imm shift cond 2600468480 (⟨#[100, 110, 109, 97]⟩ : ByteArray) 11 0 0 0 0 imm shift cond 7 25 4 11 rfl (by decide) (by decide) (by decide +kernel)]
  rw [step_end]
  refine ⟨fun h => ?_, fun h => ⟨_, congrArg some (Prod.ext rfl ?_)⟩⟩
  · simp only [Option.some.injEq, Prod.mk.injEq, Bool.and_eq_true, beq_iff_eq, and_true, true_and]
    omega
  · simp only [Bool.and_eq_false_iff, beq_eq_false_iff_ne]
    omega
set_option maxHeartbeats 2000000 in
theorem refl12 (rd rn rm ra imm shift cond : Int) (w1 : -9223372036854775808 ≤ rd ∧ rd < 9223372036854775808) (w2 : -9223372036854775808 ≤ rn ∧ rn < 9223372036854775808) (w3 : -9223372036854775808 ≤ rm ∧ rm < 9223372036854775808) (w4 : -9223372036854775808 ≤ ra ∧ ra < 9223372036854775808) (w5 : -9223372036854775808 ≤ imm ∧ imm < 9223372036854775808) (w6 : -9223372036854775808 ≤ shift ∧ shift < 9223372036854775808) (w7 : -9223372036854775808 ≤ cond ∧ cond < 9223372036854775808) :
    (CR4 rd rn rm ra imm shift cond → L 40 2600501248 0 12 rd rn rm ra imm shift cond 2600501248 (⟨#[100, 110, 109, 97]⟩ : ByteArray) 12 rd rn rm ra imm shift cond = some (VR4 2600501248 rd rn rm ra imm shift cond, true)) ∧ (¬ CR4 rd rn rm ra imm shift cond → ∃ v, L 40 2600501248 0 12 rd rn rm ra imm shift cond 2600501248 (⟨#[100, 110, 109, 97]⟩ : ByteArray) 12 rd rn rm ra imm shift cond = some (v, false)) := by
  unfold CR4 VR4
  by_cases hrrd : 0 ≤ rd ∧ rd ≤ 31
  case neg => (have hr := hrrd; rw [step_take_u_bad 38 (2600501248) 0 12 rd rn rm ra imm shift cond 2600501248 (⟨#[100, 110, 109, 97]⟩ : ByteArray) 12 rd rn rm ra imm shift cond rd 5 0 16 31 100 (by decide) (by decide) rfl (by decide +kernel) rfl rfl rfl (by decide) (by decide +kernel) hr]; exact ⟨fun h => by omega, fun _ => ⟨0, rfl⟩⟩)
  rw [step_take_u 38 (2600501248) 0 12 rd rn rm ra imm shift cond 2600501248 (⟨#[100, 110, 109, 97]⟩ : ByteArray) 12 rd rn rm ra imm shift cond 1 rfl rd 5 0 16 31 100 (2600501248 + 1 * (rd % 32)) 12 0 rn rm ra imm shift cond (by decide) (by decide) rfl (by decide +kernel) rfl rfl rfl rfl rfl (by decide) (by decide) (by decide +kernel) (by decide +kernel) ((ref_or (2600501248) rd 5 0 (by decide) (by decide) (by omega) (by omega) (by simp only [Nat.reduceAdd, Nat.reducePow]; omega) (by omega) (by omega) 32 (by decide) 1 (by decide) (by omega))) (by omega) (by omega)]
  by_cases hrrn : 0 ≤ rn ∧ rn ≤ 31
  case neg => (have hr := hrrn; rw [step_take_u_bad 36 (2600501248 + 1 * (rd % 32)) 1 12 rd rn rm ra imm shift cond 2600501248 (⟨#[100, 110, 109, 97]⟩ : ByteArray) 12 0 rn rm ra imm shift cond rn 5 5 16 31 110 (by decide) (by decide) rfl (by decide +kernel) rfl rfl rfl (by decide) (by decide +kernel) hr]; exact ⟨fun h => by omega, fun _ => ⟨0, rfl⟩⟩)
  rw [step_take_u 36 (2600501248 + 1 * (rd % 32)) 1 12 rd rn rm ra imm shift cond 2600501248 (⟨#[100, 110, 109, 97]⟩ : ByteArray) 12 0 rn rm ra imm shift cond 2 rfl rn 5 5 16 31 110 (2600501248 + 1 * (rd % 32) + 32 * (rn % 32)) 12 0 0 rm ra imm shift cond (by decide) (by decide) rfl (by decide +kernel) rfl rfl rfl rfl rfl (by decide) (by decide) (by decide +kernel) (by decide +kernel) ((ref_or (2600501248 + 1 * (rd % 32)) rn 5 5 (by decide) (by decide) (by omega) (by omega) (by simp only [Nat.reduceAdd, Nat.reducePow]; omega) (by omega) (by omega) 32 (by decide) 32 (by decide) (by omega))) (by omega) (by omega)]
  by_cases hrrm : 0 ≤ rm ∧ rm ≤ 31
  case neg => (have hr := hrrm; rw [step_take_u_bad 34 (2600501248 + 1 * (rd % 32) + 32 * (rn % 32)) 2 12 rd rn rm ra imm shift cond 2600501248 (⟨#[100, 110, 109, 97]⟩ : ByteArray) 12 0 0 rm ra imm shift cond rm 5 16 16 31 109 (by decide) (by decide) rfl (by decide +kernel) rfl rfl rfl (by decide) (by decide +kernel) hr]; exact ⟨fun h => by omega, fun _ => ⟨0, rfl⟩⟩)
  rw [step_take_u 34 (2600501248 + 1 * (rd % 32) + 32 * (rn % 32)) 2 12 rd rn rm ra imm shift cond 2600501248 (⟨#[100, 110, 109, 97]⟩ : ByteArray) 12 0 0 rm ra imm shift cond 3 rfl rm 5 16 16 31 109 (2600501248 + 1 * (rd % 32) + 32 * (rn % 32) + 65536 * (rm % 32)) 12 0 0 0 ra imm shift cond (by decide) (by decide) rfl (by decide +kernel) rfl rfl rfl rfl rfl (by decide) (by decide) (by decide +kernel) (by decide +kernel) ((ref_or (2600501248 + 1 * (rd % 32) + 32 * (rn % 32)) rm 5 16 (by decide) (by decide) (by omega) (by omega) (by simp only [Nat.reduceAdd, Nat.reducePow]; omega) (by omega) (by omega) 32 (by decide) 65536 (by decide) (by omega))) (by omega) (by omega)]
  by_cases hrra : 0 ≤ ra ∧ ra ≤ 31
  case neg => (have hr := hrra; rw [step_take_u_bad 32 (2600501248 + 1 * (rd % 32) + 32 * (rn % 32) + 65536 * (rm % 32)) 3 12 rd rn rm ra imm shift cond 2600501248 (⟨#[100, 110, 109, 97]⟩ : ByteArray) 12 0 0 0 ra imm shift cond ra 5 10 16 31 97 (by decide) (by decide) rfl (by decide +kernel) rfl rfl rfl (by decide) (by decide +kernel) hr]; exact ⟨fun h => by omega, fun _ => ⟨0, rfl⟩⟩)
  rw [step_take_u 32 (2600501248 + 1 * (rd % 32) + 32 * (rn % 32) + 65536 * (rm % 32)) 3 12 rd rn rm ra imm shift cond 2600501248 (⟨#[100, 110, 109, 97]⟩ : ByteArray) 12 0 0 0 ra imm shift cond 4 rfl ra 5 10 16 31 97 (2600501248 + 1 * (rd % 32) + 32 * (rn % 32) + 65536 * (rm % 32) + 1024 * (ra % 32)) 12 0 0 0 0 imm shift cond (by decide) (by decide) rfl (by decide +kernel) rfl rfl rfl rfl rfl (by decide) (by decide) (by decide +kernel) (by decide +kernel) ((ref_or (2600501248 + 1 * (rd % 32) + 32 * (rn % 32) + 65536 * (rm % 32)) ra 5 10 (by decide) (by decide) (by omega) (by omega) (by simp only [Nat.reduceAdd, Nat.reducePow]; omega) (by omega) (by omega) 32 (by decide) 1024 (by decide) (by omega))) (by omega) (by omega)]
  rw [show L 32 = L (25 + 7) from rfl, skip_run (2600501248 + 1 * (rd % 32) + 32 * (rn % 32) + 65536 * (rm % 32) + 1024 * (ra % 32)) 12 rd rn rm ra imm shift cond 2600501248 (⟨#[100, 110, 109, 97]⟩ : ByteArray) 12 0 0 0 0 imm shift cond 7 25 4 11 rfl (by decide) (by decide) (by decide +kernel)]
  rw [step_end]
  refine ⟨fun h => ?_, fun h => ⟨_, congrArg some (Prod.ext rfl ?_)⟩⟩
  · simp only [Option.some.injEq, Prod.mk.injEq, Bool.and_eq_true, beq_iff_eq, and_true, true_and]
    omega
  · simp only [Bool.and_eq_false_iff, beq_eq_false_iff_ne]
    omega
set_option maxHeartbeats 2000000 in
theorem refl16 (rd rn rm ra imm shift cond : Int) (w1 : -9223372036854775808 ≤ rd ∧ rd < 9223372036854775808) (w2 : -9223372036854775808 ≤ rn ∧ rn < 9223372036854775808) (w3 : -9223372036854775808 ≤ rm ∧ rm < 9223372036854775808) (w4 : -9223372036854775808 ≤ ra ∧ ra < 9223372036854775808) (w5 : -9223372036854775808 ≤ imm ∧ imm < 9223372036854775808) (w6 : -9223372036854775808 ≤ shift ∧ shift < 9223372036854775808) (w7 : -9223372036854775808 ≤ cond ∧ cond < 9223372036854775808) :
    (CMV rd rn rm ra imm shift cond → L 40 3531603968 0 16 rd rn rm ra imm shift cond 3531603968 (⟨#[100, 119, 115]⟩ : ByteArray) 16 rd rn rm ra imm shift cond = some (VMV 3531603968 rd rn rm ra imm shift cond, true)) ∧ (¬ CMV rd rn rm ra imm shift cond → ∃ v, L 40 3531603968 0 16 rd rn rm ra imm shift cond 3531603968 (⟨#[100, 119, 115]⟩ : ByteArray) 16 rd rn rm ra imm shift cond = some (v, false)) := by
  unfold CMV VMV
  by_cases hrrd : 0 ≤ rd ∧ rd ≤ 31
  case neg => (have hr := hrrd; rw [step_take_u_bad 38 (3531603968) 0 16 rd rn rm ra imm shift cond 3531603968 (⟨#[100, 119, 115]⟩ : ByteArray) 16 rd rn rm ra imm shift cond rd 5 0 16 31 100 (by decide) (by decide) rfl (by decide +kernel) rfl rfl rfl (by decide) (by decide +kernel) hr]; exact ⟨fun h => by omega, fun _ => ⟨0, rfl⟩⟩)
  rw [step_take_u 38 (3531603968) 0 16 rd rn rm ra imm shift cond 3531603968 (⟨#[100, 119, 115]⟩ : ByteArray) 16 rd rn rm ra imm shift cond 1 rfl rd 5 0 16 31 100 (3531603968 + 1 * (rd % 32)) 16 0 rn rm ra imm shift cond (by decide) (by decide) rfl (by decide +kernel) rfl rfl rfl rfl rfl (by decide) (by decide) (by decide +kernel) (by decide +kernel) ((ref_or (3531603968) rd 5 0 (by decide) (by decide) (by omega) (by omega) (by simp only [Nat.reduceAdd, Nat.reducePow]; omega) (by omega) (by omega) 32 (by decide) 1 (by decide) (by omega))) (by omega) (by omega)]
  rw [show L 38 = L (34 + 4) from rfl, skip_run (3531603968 + 1 * (rd % 32)) 16 rd rn rm ra imm shift cond 3531603968 (⟨#[100, 119, 115]⟩ : ByteArray) 16 0 rn rm ra imm shift cond 4 34 1 5 rfl (by decide) (by decide) (by decide +kernel)]
  by_cases hrimm : 0 ≤ imm ∧ imm ≤ 65535
  case neg => (have hr := hrimm; rw [step_take_u_bad 32 (3531603968 + 1 * (rd % 32)) 5 16 rd rn rm ra imm shift cond 3531603968 (⟨#[100, 119, 115]⟩ : ByteArray) 16 0 rn rm ra imm shift cond imm 16 5 32768 65535 119 (by decide) (by decide) rfl (by decide +kernel) rfl rfl rfl (by decide) (by decide +kernel) hr]; exact ⟨fun h => by omega, fun _ => ⟨0, rfl⟩⟩)
  rw [step_take_u 32 (3531603968 + 1 * (rd % 32)) 5 16 rd rn rm ra imm shift cond 3531603968 (⟨#[100, 119, 115]⟩ : ByteArray) 16 0 rn rm ra imm shift cond 6 rfl imm 16 5 32768 65535 119 (3531603968 + 1 * (rd % 32) + 32 * (imm % 65536)) 16 0 rn rm ra 0 shift cond (by decide) (by decide) rfl (by decide +kernel) rfl rfl rfl rfl rfl (by decide) (by decide) (by decide +kernel) (by decide +kernel) ((ref_or (3531603968 + 1 * (rd % 32)) imm 16 5 (by decide) (by decide) (by omega) (by omega) (by simp only [Nat.reduceAdd, Nat.reducePow]; omega) (by omega) (by omega) 65536 (by decide) 32 (by decide) (by omega))) (by omega) (by omega)]
  by_cases hrshift : 0 ≤ shift ∧ shift ≤ 3
  case neg => (have hr := hrshift; rw [step_take_u_bad 30 (3531603968 + 1 * (rd % 32) + 32 * (imm % 65536)) 6 16 rd rn rm ra imm shift cond 3531603968 (⟨#[100, 119, 115]⟩ : ByteArray) 16 0 rn rm ra 0 shift cond shift 2 21 2 3 115 (by decide) (by decide) rfl (by decide +kernel) rfl rfl rfl (by decide) (by decide +kernel) hr]; exact ⟨fun h => by omega, fun _ => ⟨0, rfl⟩⟩)
  rw [step_take_u 30 (3531603968 + 1 * (rd % 32) + 32 * (imm % 65536)) 6 16 rd rn rm ra imm shift cond 3531603968 (⟨#[100, 119, 115]⟩ : ByteArray) 16 0 rn rm ra 0 shift cond 7 rfl shift 2 21 2 3 115 (3531603968 + 1 * (rd % 32) + 32 * (imm % 65536) + 2097152 * (shift % 4)) 16 0 rn rm ra 0 0 cond (by decide) (by decide) rfl (by decide +kernel) rfl rfl rfl rfl rfl (by decide) (by decide) (by decide +kernel) (by decide +kernel) ((ref_or (3531603968 + 1 * (rd % 32) + 32 * (imm % 65536)) shift 2 21 (by decide) (by decide) (by omega) (by omega) (by simp only [Nat.reduceAdd, Nat.reducePow]; omega) (by omega) (by omega) 4 (by decide) 2097152 (by decide) (by omega))) (by omega) (by omega)]
  rw [show L 30 = L (26 + 4) from rfl, skip_run (3531603968 + 1 * (rd % 32) + 32 * (imm % 65536) + 2097152 * (shift % 4)) 16 rd rn rm ra imm shift cond 3531603968 (⟨#[100, 119, 115]⟩ : ByteArray) 16 0 rn rm ra 0 0 cond 4 26 7 11 rfl (by decide) (by decide) (by decide +kernel)]
  rw [step_end]
  refine ⟨fun h => ?_, fun h => ⟨_, congrArg some (Prod.ext rfl ?_)⟩⟩
  · simp only [Option.some.injEq, Prod.mk.injEq, Bool.and_eq_true, beq_iff_eq, and_true, true_and]
    omega
  · simp only [Bool.and_eq_false_iff, beq_eq_false_iff_ne]
    omega
set_option maxHeartbeats 2000000 in
theorem refl17 (rd rn rm ra imm shift cond : Int) (w1 : -9223372036854775808 ≤ rd ∧ rd < 9223372036854775808) (w2 : -9223372036854775808 ≤ rn ∧ rn < 9223372036854775808) (w3 : -9223372036854775808 ≤ rm ∧ rm < 9223372036854775808) (w4 : -9223372036854775808 ≤ ra ∧ ra < 9223372036854775808) (w5 : -9223372036854775808 ≤ imm ∧ imm < 9223372036854775808) (w6 : -9223372036854775808 ≤ shift ∧ shift < 9223372036854775808) (w7 : -9223372036854775808 ≤ cond ∧ cond < 9223372036854775808) :
    (CMV rd rn rm ra imm shift cond → L 40 4068474880 0 17 rd rn rm ra imm shift cond 4068474880 (⟨#[100, 119, 115]⟩ : ByteArray) 17 rd rn rm ra imm shift cond = some (VMV 4068474880 rd rn rm ra imm shift cond, true)) ∧ (¬ CMV rd rn rm ra imm shift cond → ∃ v, L 40 4068474880 0 17 rd rn rm ra imm shift cond 4068474880 (⟨#[100, 119, 115]⟩ : ByteArray) 17 rd rn rm ra imm shift cond = some (v, false)) := by
  unfold CMV VMV
  by_cases hrrd : 0 ≤ rd ∧ rd ≤ 31
  case neg => (have hr := hrrd; rw [step_take_u_bad 38 (4068474880) 0 17 rd rn rm ra imm shift cond 4068474880 (⟨#[100, 119, 115]⟩ : ByteArray) 17 rd rn rm ra imm shift cond rd 5 0 16 31 100 (by decide) (by decide) rfl (by decide +kernel) rfl rfl rfl (by decide) (by decide +kernel) hr]; exact ⟨fun h => by omega, fun _ => ⟨0, rfl⟩⟩)
  rw [step_take_u 38 (4068474880) 0 17 rd rn rm ra imm shift cond 4068474880 (⟨#[100, 119, 115]⟩ : ByteArray) 17 rd rn rm ra imm shift cond 1 rfl rd 5 0 16 31 100 (4068474880 + 1 * (rd % 32)) 17 0 rn rm ra imm shift cond (by decide) (by decide) rfl (by decide +kernel) rfl rfl rfl rfl rfl (by decide) (by decide) (by decide +kernel) (by decide +kernel) ((ref_or (4068474880) rd 5 0 (by decide) (by decide) (by omega) (by omega) (by simp only [Nat.reduceAdd, Nat.reducePow]; omega) (by omega) (by omega) 32 (by decide) 1 (by decide) (by omega))) (by omega) (by omega)]
  rw [show L 38 = L (34 + 4) from rfl, skip_run (4068474880 + 1 * (rd % 32)) 17 rd rn rm ra imm shift cond 4068474880 (⟨#[100, 119, 115]⟩ : ByteArray) 17 0 rn rm ra imm shift cond 4 34 1 5 rfl (by decide) (by decide) (by decide +kernel)]
  by_cases hrimm : 0 ≤ imm ∧ imm ≤ 65535
  case neg => (have hr := hrimm; rw [step_take_u_bad 32 (4068474880 + 1 * (rd % 32)) 5 17 rd rn rm ra imm shift cond 4068474880 (⟨#[100, 119, 115]⟩ : ByteArray) 17 0 rn rm ra imm shift cond imm 16 5 32768 65535 119 (by decide) (by decide) rfl (by decide +kernel) rfl rfl rfl (by decide) (by decide +kernel) hr]; exact ⟨fun h => by omega, fun _ => ⟨0, rfl⟩⟩)
  rw [step_take_u 32 (4068474880 + 1 * (rd % 32)) 5 17 rd rn rm ra imm shift cond 4068474880 (⟨#[100, 119, 115]⟩ : ByteArray) 17 0 rn rm ra imm shift cond 6 rfl imm 16 5 32768 65535 119 (4068474880 + 1 * (rd % 32) + 32 * (imm % 65536)) 17 0 rn rm ra 0 shift cond (by decide) (by decide) rfl (by decide +kernel) rfl rfl rfl rfl rfl (by decide) (by decide) (by decide +kernel) (by decide +kernel) ((ref_or (4068474880 + 1 * (rd % 32)) imm 16 5 (by decide) (by decide) (by omega) (by omega) (by simp only [Nat.reduceAdd, Nat.reducePow]; omega) (by omega) (by omega) 65536 (by decide) 32 (by decide) (by omega))) (by omega) (by omega)]
  by_cases hrshift : 0 ≤ shift ∧ shift ≤ 3
  case neg => (have hr := hrshift; rw [step_take_u_bad 30 (4068474880 + 1 * (rd % 32) + 32 * (imm % 65536)) 6 17 rd rn rm ra imm shift cond 4068474880 (⟨#[100, 119, 115]⟩ : ByteArray) 17 0 rn rm ra 0 shift cond shift 2 21 2 3 115 (by decide) (by decide) rfl (by decide +kernel) rfl rfl rfl (by decide) (by decide +kernel) hr]; exact ⟨fun h => by omega, fun _ => ⟨0, rfl⟩⟩)
  rw [step_take_u 30 (4068474880 + 1 * (rd % 32) + 32 * (imm % 65536)) 6 17 rd rn rm ra imm shift cond 4068474880 (⟨#[100, 119, 115]⟩ : ByteArray) 17 0 rn rm ra 0 shift cond 7 rfl shift 2 21 2 3 115 (4068474880 + 1 * (rd % 32) + 32 * (imm % 65536) + 2097152 * (shift % 4)) 17 0 rn rm ra 0 0 cond (by decide) (by decide) rfl (by decide +kernel) rfl rfl rfl rfl rfl (by decide) (by decide) (by decide +kernel) (by decide +kernel) ((ref_or (4068474880 + 1 * (rd % 32) + 32 * (imm % 65536)) shift 2 21 (by decide) (by decide) (by omega) (by omega) (by simp only [Nat.reduceAdd, Nat.reducePow]; omega) (by omega) (by omega) 4 (by decide) 2097152 (by decide) (by omega))) (by omega) (by omega)]
  rw [show L 30 = L (26 + 4) from rfl, skip_run (4068474880 + 1 * (rd % 32) + 32 * (imm % 65536) + 2097152 * (shift % 4)) 17 rd rn rm ra imm shift cond 4068474880 (⟨#[100, 119, 115]⟩ : ByteArray) 17 0 rn rm ra 0 0 cond 4 26 7 11 rfl (by decide) (by decide) (by decide +kernel)]
  rw [step_end]
  refine ⟨fun h => ?_, fun h => ⟨_, congrArg some (Prod.ext rfl ?_)⟩⟩
  · simp only [Option.some.injEq, Prod.mk.injEq, Bool.and_eq_true, beq_iff_eq, and_true, true_and]
    omega
  · simp only [Bool.and_eq_false_iff, beq_eq_false_iff_ne]
    omega
set_option maxHeartbeats 2000000 in
theorem refl18 (rd rn rm ra imm shift cond : Int) (w1 : -9223372036854775808 ≤ rd ∧ rd < 9223372036854775808) (w2 : -9223372036854775808 ≤ rn ∧ rn < 9223372036854775808) (w3 : -9223372036854775808 ≤ rm ∧ rm < 9223372036854775808) (w4 : -9223372036854775808 ≤ ra ∧ ra < 9223372036854775808) (w5 : -9223372036854775808 ≤ imm ∧ imm < 9223372036854775808) (w6 : -9223372036854775808 ≤ shift ∧ shift < 9223372036854775808) (w7 : -9223372036854775808 ≤ cond ∧ cond < 9223372036854775808) :
    (CMV rd rn rm ra imm shift cond → L 40 2457862144 0 18 rd rn rm ra imm shift cond 2457862144 (⟨#[100, 119, 115]⟩ : ByteArray) 18 rd rn rm ra imm shift cond = some (VMV 2457862144 rd rn rm ra imm shift cond, true)) ∧ (¬ CMV rd rn rm ra imm shift cond → ∃ v, L 40 2457862144 0 18 rd rn rm ra imm shift cond 2457862144 (⟨#[100, 119, 115]⟩ : ByteArray) 18 rd rn rm ra imm shift cond = some (v, false)) := by
  unfold CMV VMV
  by_cases hrrd : 0 ≤ rd ∧ rd ≤ 31
  case neg => (have hr := hrrd; rw [step_take_u_bad 38 (2457862144) 0 18 rd rn rm ra imm shift cond 2457862144 (⟨#[100, 119, 115]⟩ : ByteArray) 18 rd rn rm ra imm shift cond rd 5 0 16 31 100 (by decide) (by decide) rfl (by decide +kernel) rfl rfl rfl (by decide) (by decide +kernel) hr]; exact ⟨fun h => by omega, fun _ => ⟨0, rfl⟩⟩)
  rw [step_take_u 38 (2457862144) 0 18 rd rn rm ra imm shift cond 2457862144 (⟨#[100, 119, 115]⟩ : ByteArray) 18 rd rn rm ra imm shift cond 1 rfl rd 5 0 16 31 100 (2457862144 + 1 * (rd % 32)) 18 0 rn rm ra imm shift cond (by decide) (by decide) rfl (by decide +kernel) rfl rfl rfl rfl rfl (by decide) (by decide) (by decide +kernel) (by decide +kernel) ((ref_or (2457862144) rd 5 0 (by decide) (by decide) (by omega) (by omega) (by simp only [Nat.reduceAdd, Nat.reducePow]; omega) (by omega) (by omega) 32 (by decide) 1 (by decide) (by omega))) (by omega) (by omega)]
  rw [show L 38 = L (34 + 4) from rfl, skip_run (2457862144 + 1 * (rd % 32)) 18 rd rn rm ra imm shift cond 2457862144 (⟨#[100, 119, 115]⟩ : ByteArray) 18 0 rn rm ra imm shift cond 4 34 1 5 rfl (by decide) (by decide) (by decide +kernel)]
  by_cases hrimm : 0 ≤ imm ∧ imm ≤ 65535
  case neg => (have hr := hrimm; rw [step_take_u_bad 32 (2457862144 + 1 * (rd % 32)) 5 18 rd rn rm ra imm shift cond 2457862144 (⟨#[100, 119, 115]⟩ : ByteArray) 18 0 rn rm ra imm shift cond imm 16 5 32768 65535 119 (by decide) (by decide) rfl (by decide +kernel) rfl rfl rfl (by decide) (by decide +kernel) hr]; exact ⟨fun h => by omega, fun _ => ⟨0, rfl⟩⟩)
  rw [step_take_u 32 (2457862144 + 1 * (rd % 32)) 5 18 rd rn rm ra imm shift cond 2457862144 (⟨#[100, 119, 115]⟩ : ByteArray) 18 0 rn rm ra imm shift cond 6 rfl imm 16 5 32768 65535 119 (2457862144 + 1 * (rd % 32) + 32 * (imm % 65536)) 18 0 rn rm ra 0 shift cond (by decide) (by decide) rfl (by decide +kernel) rfl rfl rfl rfl rfl (by decide) (by decide) (by decide +kernel) (by decide +kernel) ((ref_or (2457862144 + 1 * (rd % 32)) imm 16 5 (by decide) (by decide) (by omega) (by omega) (by simp only [Nat.reduceAdd, Nat.reducePow]; omega) (by omega) (by omega) 65536 (by decide) 32 (by decide) (by omega))) (by omega) (by omega)]
  by_cases hrshift : 0 ≤ shift ∧ shift ≤ 3
  case neg => (have hr := hrshift; rw [step_take_u_bad 30 (2457862144 + 1 * (rd % 32) + 32 * (imm % 65536)) 6 18 rd rn rm ra imm shift cond 2457862144 (⟨#[100, 119, 115]⟩ : ByteArray) 18 0 rn rm ra 0 shift cond shift 2 21 2 3 115 (by decide) (by decide) rfl (by decide +kernel) rfl rfl rfl (by decide) (by decide +kernel) hr]; exact ⟨fun h => by omega, fun _ => ⟨0, rfl⟩⟩)
  rw [step_take_u 30 (2457862144 + 1 * (rd % 32) + 32 * (imm % 65536)) 6 18 rd rn rm ra imm shift cond 2457862144 (⟨#[100, 119, 115]⟩ : ByteArray) 18 0 rn rm ra 0 shift cond 7 rfl shift 2 21 2 3 115 (2457862144 + 1 * (rd % 32) + 32 * (imm % 65536) + 2097152 * (shift % 4)) 18 0 rn rm ra 0 0 cond (by decide) (by decide) rfl (by decide +kernel) rfl rfl rfl rfl rfl (by decide) (by decide) (by decide +kernel) (by decide +kernel) ((ref_or (2457862144 + 1 * (rd % 32) + 32 * (imm % 65536)) shift 2 21 (by decide) (by decide) (by omega) (by omega) (by simp only [Nat.reduceAdd, Nat.reducePow]; omega) (by omega) (by omega) 4 (by decide) 2097152 (by decide) (by omega))) (by omega) (by omega)]
  rw [show L 30 = L (26 + 4) from rfl, skip_run (2457862144 + 1 * (rd % 32) + 32 * (imm % 65536) + 2097152 * (shift % 4)) 18 rd rn rm ra imm shift cond 2457862144 (⟨#[100, 119, 115]⟩ : ByteArray) 18 0 rn rm ra 0 0 cond 4 26 7 11 rfl (by decide) (by decide) (by decide +kernel)]
  rw [step_end]
  refine ⟨fun h => ?_, fun h => ⟨_, congrArg some (Prod.ext rfl ?_)⟩⟩
  · simp only [Option.some.injEq, Prod.mk.injEq, Bool.and_eq_true, beq_iff_eq, and_true, true_and]
    omega
  · simp only [Bool.and_eq_false_iff, beq_eq_false_iff_ne]
    omega
set_option maxHeartbeats 2000000 in
theorem refl21 (rd rn rm ra imm shift cond : Int) (w1 : -9223372036854775808 ≤ rd ∧ rd < 9223372036854775808) (w2 : -9223372036854775808 ≤ rn ∧ rn < 9223372036854775808) (w3 : -9223372036854775808 ≤ rm ∧ rm < 9223372036854775808) (w4 : -9223372036854775808 ≤ ra ∧ ra < 9223372036854775808) (w5 : -9223372036854775808 ≤ imm ∧ imm < 9223372036854775808) (w6 : -9223372036854775808 ≤ shift ∧ shift < 9223372036854775808) (w7 : -9223372036854775808 ≤ cond ∧ cond < 9223372036854775808) :
    (CCS rd rn rm ra imm shift cond → L 40 2592079872 0 21 rd rn rm ra imm shift cond 2592079872 (⟨#[100, 110, 109, 99]⟩ : ByteArray) 21 rd rn rm ra imm shift cond = some (VCS 2592079872 rd rn rm ra imm shift cond, true)) ∧ (¬ CCS rd rn rm ra imm shift cond → ∃ v, L 40 2592079872 0 21 rd rn rm ra imm shift cond 2592079872 (⟨#[100, 110, 109, 99]⟩ : ByteArray) 21 rd rn rm ra imm shift cond = some (v, false)) := by
  unfold CCS VCS
  by_cases hrrd : 0 ≤ rd ∧ rd ≤ 31
  case neg => (have hr := hrrd; rw [step_take_u_bad 38 (2592079872) 0 21 rd rn rm ra imm shift cond 2592079872 (⟨#[100, 110, 109, 99]⟩ : ByteArray) 21 rd rn rm ra imm shift cond rd 5 0 16 31 100 (by decide) (by decide) rfl (by decide +kernel) rfl rfl rfl (by decide) (by decide +kernel) hr]; exact ⟨fun h => by omega, fun _ => ⟨0, rfl⟩⟩)
  rw [step_take_u 38 (2592079872) 0 21 rd rn rm ra imm shift cond 2592079872 (⟨#[100, 110, 109, 99]⟩ : ByteArray) 21 rd rn rm ra imm shift cond 1 rfl rd 5 0 16 31 100 (2592079872 + 1 * (rd % 32)) 21 0 rn rm ra imm shift cond (by decide) (by decide) rfl (by decide +kernel) rfl rfl rfl rfl rfl (by decide) (by decide) (by decide +kernel) (by decide +kernel) ((ref_or (2592079872) rd 5 0 (by decide) (by decide) (by omega) (by omega) (by simp only [Nat.reduceAdd, Nat.reducePow]; omega) (by omega) (by omega) 32 (by decide) 1 (by decide) (by omega))) (by omega) (by omega)]
  by_cases hrrn : 0 ≤ rn ∧ rn ≤ 31
  case neg => (have hr := hrrn; rw [step_take_u_bad 36 (2592079872 + 1 * (rd % 32)) 1 21 rd rn rm ra imm shift cond 2592079872 (⟨#[100, 110, 109, 99]⟩ : ByteArray) 21 0 rn rm ra imm shift cond rn 5 5 16 31 110 (by decide) (by decide) rfl (by decide +kernel) rfl rfl rfl (by decide) (by decide +kernel) hr]; exact ⟨fun h => by omega, fun _ => ⟨0, rfl⟩⟩)
  rw [step_take_u 36 (2592079872 + 1 * (rd % 32)) 1 21 rd rn rm ra imm shift cond 2592079872 (⟨#[100, 110, 109, 99]⟩ : ByteArray) 21 0 rn rm ra imm shift cond 2 rfl rn 5 5 16 31 110 (2592079872 + 1 * (rd % 32) + 32 * (rn % 32)) 21 0 0 rm ra imm shift cond (by decide) (by decide) rfl (by decide +kernel) rfl rfl rfl rfl rfl (by decide) (by decide) (by decide +kernel) (by decide +kernel) ((ref_or (2592079872 + 1 * (rd % 32)) rn 5 5 (by decide) (by decide) (by omega) (by omega) (by simp only [Nat.reduceAdd, Nat.reducePow]; omega) (by omega) (by omega) 32 (by decide) 32 (by decide) (by omega))) (by omega) (by omega)]
  by_cases hrrm : 0 ≤ rm ∧ rm ≤ 31
  case neg => (have hr := hrrm; rw [step_take_u_bad 34 (2592079872 + 1 * (rd % 32) + 32 * (rn % 32)) 2 21 rd rn rm ra imm shift cond 2592079872 (⟨#[100, 110, 109, 99]⟩ : ByteArray) 21 0 0 rm ra imm shift cond rm 5 16 16 31 109 (by decide) (by decide) rfl (by decide +kernel) rfl rfl rfl (by decide) (by decide +kernel) hr]; exact ⟨fun h => by omega, fun _ => ⟨0, rfl⟩⟩)
  rw [step_take_u 34 (2592079872 + 1 * (rd % 32) + 32 * (rn % 32)) 2 21 rd rn rm ra imm shift cond 2592079872 (⟨#[100, 110, 109, 99]⟩ : ByteArray) 21 0 0 rm ra imm shift cond 3 rfl rm 5 16 16 31 109 (2592079872 + 1 * (rd % 32) + 32 * (rn % 32) + 65536 * (rm % 32)) 21 0 0 0 ra imm shift cond (by decide) (by decide) rfl (by decide +kernel) rfl rfl rfl rfl rfl (by decide) (by decide) (by decide +kernel) (by decide +kernel) ((ref_or (2592079872 + 1 * (rd % 32) + 32 * (rn % 32)) rm 5 16 (by decide) (by decide) (by omega) (by omega) (by simp only [Nat.reduceAdd, Nat.reducePow]; omega) (by omega) (by omega) 32 (by decide) 65536 (by decide) (by omega))) (by omega) (by omega)]
  rw [show L 34 = L (30 + 4) from rfl, skip_run (2592079872 + 1 * (rd % 32) + 32 * (rn % 32) + 65536 * (rm % 32)) 21 rd rn rm ra imm shift cond 2592079872 (⟨#[100, 110, 109, 99]⟩ : ByteArray) 21 0 0 0 ra imm shift cond 4 30 3 7 rfl (by decide) (by decide) (by decide +kernel)]
  by_cases hrcond : 0 ≤ cond ∧ cond ≤ 15
  case neg => (have hr := hrcond; rw [step_take_u_bad 28 (2592079872 + 1 * (rd % 32) + 32 * (rn % 32) + 65536 * (rm % 32)) 7 21 rd rn rm ra imm shift cond 2592079872 (⟨#[100, 110, 109, 99]⟩ : ByteArray) 21 0 0 0 ra imm shift cond cond 4 12 8 15 99 (by decide) (by decide) rfl (by decide +kernel) rfl rfl rfl (by decide) (by decide +kernel) hr]; exact ⟨fun h => by omega, fun _ => ⟨0, rfl⟩⟩)
  rw [step_take_u 28 (2592079872 + 1 * (rd % 32) + 32 * (rn % 32) + 65536 * (rm % 32)) 7 21 rd rn rm ra imm shift cond 2592079872 (⟨#[100, 110, 109, 99]⟩ : ByteArray) 21 0 0 0 ra imm shift cond 8 rfl cond 4 12 8 15 99 (2592079872 + 1 * (rd % 32) + 32 * (rn % 32) + 65536 * (rm % 32) + 4096 * (cond % 16)) 21 0 0 0 ra imm shift 0 (by decide) (by decide) rfl (by decide +kernel) rfl rfl rfl rfl rfl (by decide) (by decide) (by decide +kernel) (by decide +kernel) ((ref_or (2592079872 + 1 * (rd % 32) + 32 * (rn % 32) + 65536 * (rm % 32)) cond 4 12 (by decide) (by decide) (by omega) (by omega) (by simp only [Nat.reduceAdd, Nat.reducePow]; omega) (by omega) (by omega) 16 (by decide) 4096 (by decide) (by omega))) (by omega) (by omega)]
  rw [show L 28 = L (25 + 3) from rfl, skip_run (2592079872 + 1 * (rd % 32) + 32 * (rn % 32) + 65536 * (rm % 32) + 4096 * (cond % 16)) 21 rd rn rm ra imm shift cond 2592079872 (⟨#[100, 110, 109, 99]⟩ : ByteArray) 21 0 0 0 ra imm shift 0 3 25 8 11 rfl (by decide) (by decide) (by decide +kernel)]
  rw [step_end]
  refine ⟨fun h => ?_, fun h => ⟨_, congrArg some (Prod.ext rfl ?_)⟩⟩
  · simp only [Option.some.injEq, Prod.mk.injEq, Bool.and_eq_true, beq_iff_eq, and_true, true_and]
    omega
  · simp only [Bool.and_eq_false_iff, beq_eq_false_iff_ne]
    omega
set_option maxHeartbeats 2000000 in
theorem refl22 (rd rn rm ra imm shift cond : Int) (w1 : -9223372036854775808 ≤ rd ∧ rd < 9223372036854775808) (w2 : -9223372036854775808 ≤ rn ∧ rn < 9223372036854775808) (w3 : -9223372036854775808 ≤ rm ∧ rm < 9223372036854775808) (w4 : -9223372036854775808 ≤ ra ∧ ra < 9223372036854775808) (w5 : -9223372036854775808 ≤ imm ∧ imm < 9223372036854775808) (w6 : -9223372036854775808 ≤ shift ∧ shift < 9223372036854775808) (w7 : -9223372036854775808 ≤ cond ∧ cond < 9223372036854775808) :
    (CCS rd rn rm ra imm shift cond → L 40 2592080896 0 22 rd rn rm ra imm shift cond 2592080896 (⟨#[100, 110, 109, 99]⟩ : ByteArray) 22 rd rn rm ra imm shift cond = some (VCS 2592080896 rd rn rm ra imm shift cond, true)) ∧ (¬ CCS rd rn rm ra imm shift cond → ∃ v, L 40 2592080896 0 22 rd rn rm ra imm shift cond 2592080896 (⟨#[100, 110, 109, 99]⟩ : ByteArray) 22 rd rn rm ra imm shift cond = some (v, false)) := by
  unfold CCS VCS
  by_cases hrrd : 0 ≤ rd ∧ rd ≤ 31
  case neg => (have hr := hrrd; rw [step_take_u_bad 38 (2592080896) 0 22 rd rn rm ra imm shift cond 2592080896 (⟨#[100, 110, 109, 99]⟩ : ByteArray) 22 rd rn rm ra imm shift cond rd 5 0 16 31 100 (by decide) (by decide) rfl (by decide +kernel) rfl rfl rfl (by decide) (by decide +kernel) hr]; exact ⟨fun h => by omega, fun _ => ⟨0, rfl⟩⟩)
  rw [step_take_u 38 (2592080896) 0 22 rd rn rm ra imm shift cond 2592080896 (⟨#[100, 110, 109, 99]⟩ : ByteArray) 22 rd rn rm ra imm shift cond 1 rfl rd 5 0 16 31 100 (2592080896 + 1 * (rd % 32)) 22 0 rn rm ra imm shift cond (by decide) (by decide) rfl (by decide +kernel) rfl rfl rfl rfl rfl (by decide) (by decide) (by decide +kernel) (by decide +kernel) ((ref_or (2592080896) rd 5 0 (by decide) (by decide) (by omega) (by omega) (by simp only [Nat.reduceAdd, Nat.reducePow]; omega) (by omega) (by omega) 32 (by decide) 1 (by decide) (by omega))) (by omega) (by omega)]
  by_cases hrrn : 0 ≤ rn ∧ rn ≤ 31
  case neg => (have hr := hrrn; rw [step_take_u_bad 36 (2592080896 + 1 * (rd % 32)) 1 22 rd rn rm ra imm shift cond 2592080896 (⟨#[100, 110, 109, 99]⟩ : ByteArray) 22 0 rn rm ra imm shift cond rn 5 5 16 31 110 (by decide) (by decide) rfl (by decide +kernel) rfl rfl rfl (by decide) (by decide +kernel) hr]; exact ⟨fun h => by omega, fun _ => ⟨0, rfl⟩⟩)
  rw [step_take_u 36 (2592080896 + 1 * (rd % 32)) 1 22 rd rn rm ra imm shift cond 2592080896 (⟨#[100, 110, 109, 99]⟩ : ByteArray) 22 0 rn rm ra imm shift cond 2 rfl rn 5 5 16 31 110 (2592080896 + 1 * (rd % 32) + 32 * (rn % 32)) 22 0 0 rm ra imm shift cond (by decide) (by decide) rfl (by decide +kernel) rfl rfl rfl rfl rfl (by decide) (by decide) (by decide +kernel) (by decide +kernel) ((ref_or (2592080896 + 1 * (rd % 32)) rn 5 5 (by decide) (by decide) (by omega) (by omega) (by simp only [Nat.reduceAdd, Nat.reducePow]; omega) (by omega) (by omega) 32 (by decide) 32 (by decide) (by omega))) (by omega) (by omega)]
  by_cases hrrm : 0 ≤ rm ∧ rm ≤ 31
  case neg => (have hr := hrrm; rw [step_take_u_bad 34 (2592080896 + 1 * (rd % 32) + 32 * (rn % 32)) 2 22 rd rn rm ra imm shift cond 2592080896 (⟨#[100, 110, 109, 99]⟩ : ByteArray) 22 0 0 rm ra imm shift cond rm 5 16 16 31 109 (by decide) (by decide) rfl (by decide +kernel) rfl rfl rfl (by decide) (by decide +kernel) hr]; exact ⟨fun h => by omega, fun _ => ⟨0, rfl⟩⟩)
  rw [step_take_u 34 (2592080896 + 1 * (rd % 32) + 32 * (rn % 32)) 2 22 rd rn rm ra imm shift cond 2592080896 (⟨#[100, 110, 109, 99]⟩ : ByteArray) 22 0 0 rm ra imm shift cond 3 rfl rm 5 16 16 31 109 (2592080896 + 1 * (rd % 32) + 32 * (rn % 32) + 65536 * (rm % 32)) 22 0 0 0 ra imm shift cond (by decide) (by decide) rfl (by decide +kernel) rfl rfl rfl rfl rfl (by decide) (by decide) (by decide +kernel) (by decide +kernel) ((ref_or (2592080896 + 1 * (rd % 32) + 32 * (rn % 32)) rm 5 16 (by decide) (by decide) (by omega) (by omega) (by simp only [Nat.reduceAdd, Nat.reducePow]; omega) (by omega) (by omega) 32 (by decide) 65536 (by decide) (by omega))) (by omega) (by omega)]
  rw [show L 34 = L (30 + 4) from rfl, skip_run (2592080896 + 1 * (rd % 32) + 32 * (rn % 32) + 65536 * (rm % 32)) 22 rd rn rm ra imm shift cond 2592080896 (⟨#[100, 110, 109, 99]⟩ : ByteArray) 22 0 0 0 ra imm shift cond 4 30 3 7 rfl (by decide) (by decide) (by decide +kernel)]
  by_cases hrcond : 0 ≤ cond ∧ cond ≤ 15
  case neg => (have hr := hrcond; rw [step_take_u_bad 28 (2592080896 + 1 * (rd % 32) + 32 * (rn % 32) + 65536 * (rm % 32)) 7 22 rd rn rm ra imm shift cond 2592080896 (⟨#[100, 110, 109, 99]⟩ : ByteArray) 22 0 0 0 ra imm shift cond cond 4 12 8 15 99 (by decide) (by decide) rfl (by decide +kernel) rfl rfl rfl (by decide) (by decide +kernel) hr]; exact ⟨fun h => by omega, fun _ => ⟨0, rfl⟩⟩)
  rw [step_take_u 28 (2592080896 + 1 * (rd % 32) + 32 * (rn % 32) + 65536 * (rm % 32)) 7 22 rd rn rm ra imm shift cond 2592080896 (⟨#[100, 110, 109, 99]⟩ : ByteArray) 22 0 0 0 ra imm shift cond 8 rfl cond 4 12 8 15 99 (2592080896 + 1 * (rd % 32) + 32 * (rn % 32) + 65536 * (rm % 32) + 4096 * (cond % 16)) 22 0 0 0 ra imm shift 0 (by decide) (by decide) rfl (by decide +kernel) rfl rfl rfl rfl rfl (by decide) (by decide) (by decide +kernel) (by decide +kernel) ((ref_or (2592080896 + 1 * (rd % 32) + 32 * (rn % 32) + 65536 * (rm % 32)) cond 4 12 (by decide) (by decide) (by omega) (by omega) (by simp only [Nat.reduceAdd, Nat.reducePow]; omega) (by omega) (by omega) 16 (by decide) 4096 (by decide) (by omega))) (by omega) (by omega)]
  rw [show L 28 = L (25 + 3) from rfl, skip_run (2592080896 + 1 * (rd % 32) + 32 * (rn % 32) + 65536 * (rm % 32) + 4096 * (cond % 16)) 22 rd rn rm ra imm shift cond 2592080896 (⟨#[100, 110, 109, 99]⟩ : ByteArray) 22 0 0 0 ra imm shift 0 3 25 8 11 rfl (by decide) (by decide) (by decide +kernel)]
  rw [step_end]
  refine ⟨fun h => ?_, fun h => ⟨_, congrArg some (Prod.ext rfl ?_)⟩⟩
  · simp only [Option.some.injEq, Prod.mk.injEq, Bool.and_eq_true, beq_iff_eq, and_true, true_and]
    omega
  · simp only [Bool.and_eq_false_iff, beq_eq_false_iff_ne]
    omega
set_option maxHeartbeats 2000000 in
theorem refl23 (rd rn rm ra imm shift cond : Int) (w1 : -9223372036854775808 ≤ rd ∧ rd < 9223372036854775808) (w2 : -9223372036854775808 ≤ rn ∧ rn < 9223372036854775808) (w3 : -9223372036854775808 ≤ rm ∧ rm < 9223372036854775808) (w4 : -9223372036854775808 ≤ ra ∧ ra < 9223372036854775808) (w5 : -9223372036854775808 ≤ imm ∧ imm < 9223372036854775808) (w6 : -9223372036854775808 ≤ shift ∧ shift < 9223372036854775808) (w7 : -9223372036854775808 ≤ cond ∧ cond < 9223372036854775808) :
    (CBR rd rn rm ra imm shift cond → L 40 335544320 0 23 rd rn rm ra imm shift cond 335544320 (⟨#[98]⟩ : ByteArray) 23 rd rn rm ra imm shift cond = some (VBR 335544320 rd rn rm ra imm shift cond, true)) ∧ (¬ CBR rd rn rm ra imm shift cond → ∃ v, L 40 335544320 0 23 rd rn rm ra imm shift cond 335544320 (⟨#[98]⟩ : ByteArray) 23 rd rn rm ra imm shift cond = some (v, false)) := by
  unfold CBR VBR
  rw [show L 40 = L (32 + 8) from rfl, skip_run (335544320) 23 rd rn rm ra imm shift cond 335544320 (⟨#[98]⟩ : ByteArray) 23 rd rn rm ra imm shift cond 8 32 0 8 rfl (by decide) (by decide) (by decide +kernel)]
  by_cases hrimm : -33554432 ≤ imm ∧ imm ≤ 33554431
  case neg => (have hr := hrimm; rw [step_take_s_bad 30 (335544320) 8 23 rd rn rm ra imm shift cond 335544320 (⟨#[98]⟩ : ByteArray) 23 rd rn rm ra imm shift cond imm 26 0 33554432 67108863 98 (by decide) (by decide) rfl (by decide +kernel) rfl rfl rfl (by decide) (by decide +kernel) (by decide +kernel) (by decide +kernel) hr]; exact ⟨fun h => by omega, fun _ => ⟨0, rfl⟩⟩)
  rw [step_take_s 30 (335544320) 8 23 rd rn rm ra imm shift cond 335544320 (⟨#[98]⟩ : ByteArray) 23 rd rn rm ra imm shift cond 9 rfl imm 26 0 33554432 67108863 98 (335544320 + 1 * (imm % 67108864)) 23 rd rn rm ra 0 shift cond (by decide) (by decide) rfl (by decide +kernel) rfl rfl rfl rfl rfl (by decide) (by decide) (by decide +kernel) (by decide +kernel) (by decide +kernel) (by decide +kernel) ((ref_or (335544320) imm 26 0 (by decide) (by decide) (by omega) (by omega) (by simp only [Nat.reduceAdd, Nat.reducePow]; omega) (by omega) (by omega) 67108864 (by decide) 1 (by decide) (by omega))) (by omega) (by omega)]
  rw [show L 30 = L (28 + 2) from rfl, skip_run (335544320 + 1 * (imm % 67108864)) 23 rd rn rm ra imm shift cond 335544320 (⟨#[98]⟩ : ByteArray) 23 rd rn rm ra 0 shift cond 2 28 9 11 rfl (by decide) (by decide) (by decide +kernel)]
  rw [step_end]
  refine ⟨fun h => ?_, fun h => ⟨_, congrArg some (Prod.ext rfl ?_)⟩⟩
  · simp only [Option.some.injEq, Prod.mk.injEq, Bool.and_eq_true, beq_iff_eq, and_true, true_and]
    omega
  · simp only [Bool.and_eq_false_iff, beq_eq_false_iff_ne]
    omega
set_option maxHeartbeats 2000000 in
theorem refl24 (rd rn rm ra imm shift cond : Int) (w1 : -9223372036854775808 ≤ rd ∧ rd < 9223372036854775808) (w2 : -9223372036854775808 ≤ rn ∧ rn < 9223372036854775808) (w3 : -9223372036854775808 ≤ rm ∧ rm < 9223372036854775808) (w4 : -9223372036854775808 ≤ ra ∧ ra < 9223372036854775808) (w5 : -9223372036854775808 ≤ imm ∧ imm < 9223372036854775808) (w6 : -9223372036854775808 ≤ shift ∧ shift < 9223372036854775808) (w7 : -9223372036854775808 ≤ cond ∧ cond < 9223372036854775808) :
    (CBR rd rn rm ra imm shift cond → L 40 2483027968 0 24 rd rn rm ra imm shift cond 2483027968 (⟨#[98]⟩ : ByteArray) 24 rd rn rm ra imm shift cond = some (VBR 2483027968 rd rn rm ra imm shift cond, true)) ∧ (¬ CBR rd rn rm ra imm shift cond → ∃ v, L 40 2483027968 0 24 rd rn rm ra imm shift cond 2483027968 (⟨#[98]⟩ : ByteArray) 24 rd rn rm ra imm shift cond = some (v, false)) := by
  unfold CBR VBR
  rw [show L 40 = L (32 + 8) from rfl, skip_run (2483027968) 24 rd rn rm ra imm shift cond 2483027968 (⟨#[98]⟩ : ByteArray) 24 rd rn rm ra imm shift cond 8 32 0 8 rfl (by decide) (by decide) (by decide +kernel)]
  by_cases hrimm : -33554432 ≤ imm ∧ imm ≤ 33554431
  case neg => (have hr := hrimm; rw [step_take_s_bad 30 (2483027968) 8 24 rd rn rm ra imm shift cond 2483027968 (⟨#[98]⟩ : ByteArray) 24 rd rn rm ra imm shift cond imm 26 0 33554432 67108863 98 (by decide) (by decide) rfl (by decide +kernel) rfl rfl rfl (by decide) (by decide +kernel) (by decide +kernel) (by decide +kernel) hr]; exact ⟨fun h => by omega, fun _ => ⟨0, rfl⟩⟩)
  rw [step_take_s 30 (2483027968) 8 24 rd rn rm ra imm shift cond 2483027968 (⟨#[98]⟩ : ByteArray) 24 rd rn rm ra imm shift cond 9 rfl imm 26 0 33554432 67108863 98 (2483027968 + 1 * (imm % 67108864)) 24 rd rn rm ra 0 shift cond (by decide) (by decide) rfl (by decide +kernel) rfl rfl rfl rfl rfl (by decide) (by decide) (by decide +kernel) (by decide +kernel) (by decide +kernel) (by decide +kernel) ((ref_or (2483027968) imm 26 0 (by decide) (by decide) (by omega) (by omega) (by simp only [Nat.reduceAdd, Nat.reducePow]; omega) (by omega) (by omega) 67108864 (by decide) 1 (by decide) (by omega))) (by omega) (by omega)]
  rw [show L 30 = L (28 + 2) from rfl, skip_run (2483027968 + 1 * (imm % 67108864)) 24 rd rn rm ra imm shift cond 2483027968 (⟨#[98]⟩ : ByteArray) 24 rd rn rm ra 0 shift cond 2 28 9 11 rfl (by decide) (by decide) (by decide +kernel)]
  rw [step_end]
  refine ⟨fun h => ?_, fun h => ⟨_, congrArg some (Prod.ext rfl ?_)⟩⟩
  · simp only [Option.some.injEq, Prod.mk.injEq, Bool.and_eq_true, beq_iff_eq, and_true, true_and]
    omega
  · simp only [Bool.and_eq_false_iff, beq_eq_false_iff_ne]
    omega
set_option maxHeartbeats 2000000 in
theorem refl25 (rd rn rm ra imm shift cond : Int) (w1 : -9223372036854775808 ≤ rd ∧ rd < 9223372036854775808) (w2 : -9223372036854775808 ≤ rn ∧ rn < 9223372036854775808) (w3 : -9223372036854775808 ≤ rm ∧ rm < 9223372036854775808) (w4 : -9223372036854775808 ≤ ra ∧ ra < 9223372036854775808) (w5 : -9223372036854775808 ≤ imm ∧ imm < 9223372036854775808) (w6 : -9223372036854775808 ≤ shift ∧ shift < 9223372036854775808) (w7 : -9223372036854775808 ≤ cond ∧ cond < 9223372036854775808) :
    (CWH rd rn rm ra imm shift cond → L 40 1409286144 0 25 rd rn rm ra imm shift cond 1409286144 (⟨#[111, 113]⟩ : ByteArray) 25 rd rn rm ra imm shift cond = some (VWH 1409286144 rd rn rm ra imm shift cond, true)) ∧ (¬ CWH rd rn rm ra imm shift cond → ∃ v, L 40 1409286144 0 25 rd rn rm ra imm shift cond 1409286144 (⟨#[111, 113]⟩ : ByteArray) 25 rd rn rm ra imm shift cond = some (v, false)) := by
  unfold CWH VWH
  rw [show L 40 = L (31 + 9) from rfl, skip_run (1409286144) 25 rd rn rm ra imm shift cond 1409286144 (⟨#[111, 113]⟩ : ByteArray) 25 rd rn rm ra imm shift cond 9 31 0 9 rfl (by decide) (by decide) (by decide +kernel)]
  by_cases hrimm : -262144 ≤ imm ∧ imm ≤ 262143
  case neg => (have hr := hrimm; rw [step_take_s_bad 29 (1409286144) 9 25 rd rn rm ra imm shift cond 1409286144 (⟨#[111, 113]⟩ : ByteArray) 25 rd rn rm ra imm shift cond imm 19 5 262144 524287 111 (by decide) (by decide) rfl (by decide +kernel) rfl rfl rfl (by decide) (by decide +kernel) (by decide +kernel) (by decide +kernel) hr]; exact ⟨fun h => by omega, fun _ => ⟨0, rfl⟩⟩)
  rw [step_take_s 29 (1409286144) 9 25 rd rn rm ra imm shift cond 1409286144 (⟨#[111, 113]⟩ : ByteArray) 25 rd rn rm ra imm shift cond 10 rfl imm 19 5 262144 524287 111 (1409286144 + 32 * (imm % 524288)) 25 rd rn rm ra 0 shift cond (by decide) (by decide) rfl (by decide +kernel) rfl rfl rfl rfl rfl (by decide) (by decide) (by decide +kernel) (by decide +kernel) (by decide +kernel) (by decide +kernel) ((ref_or (1409286144) imm 19 5 (by decide) (by decide) (by omega) (by omega) (by simp only [Nat.reduceAdd, Nat.reducePow]; omega) (by omega) (by omega) 524288 (by decide) 32 (by decide) (by omega))) (by omega) (by omega)]
  by_cases hrcond : 0 ≤ cond ∧ cond ≤ 15
  case neg => (have hr := hrcond; rw [step_take_u_bad 27 (1409286144 + 32 * (imm % 524288)) 10 25 rd rn rm ra imm shift cond 1409286144 (⟨#[111, 113]⟩ : ByteArray) 25 rd rn rm ra 0 shift cond cond 4 0 8 15 113 (by decide) (by decide) rfl (by decide +kernel) rfl rfl rfl (by decide) (by decide +kernel) hr]; exact ⟨fun h => by omega, fun _ => ⟨0, rfl⟩⟩)
  rw [step_take_u 27 (1409286144 + 32 * (imm % 524288)) 10 25 rd rn rm ra imm shift cond 1409286144 (⟨#[111, 113]⟩ : ByteArray) 25 rd rn rm ra 0 shift cond 11 rfl cond 4 0 8 15 113 (1409286144 + 32 * (imm % 524288) + 1 * (cond % 16)) 25 rd rn rm ra 0 shift 0 (by decide) (by decide) rfl (by decide +kernel) rfl rfl rfl rfl rfl (by decide) (by decide) (by decide +kernel) (by decide +kernel) ((ref_or (1409286144 + 32 * (imm % 524288)) cond 4 0 (by decide) (by decide) (by omega) (by omega) (by simp only [Nat.reduceAdd, Nat.reducePow]; omega) (by omega) (by omega) 16 (by decide) 1 (by decide) (by omega))) (by omega) (by omega)]
  rw [step_end]
  refine ⟨fun h => ?_, fun h => ⟨_, congrArg some (Prod.ext rfl ?_)⟩⟩
  · simp only [Option.some.injEq, Prod.mk.injEq, Bool.and_eq_true, beq_iff_eq, and_true, true_and]
    omega
  · simp only [Bool.and_eq_false_iff, beq_eq_false_iff_ne]
    omega
set_option maxHeartbeats 2000000 in
theorem refl26 (rd rn rm ra imm shift cond : Int) (w1 : -9223372036854775808 ≤ rd ∧ rd < 9223372036854775808) (w2 : -9223372036854775808 ≤ rn ∧ rn < 9223372036854775808) (w3 : -9223372036854775808 ≤ rm ∧ rm < 9223372036854775808) (w4 : -9223372036854775808 ≤ ra ∧ ra < 9223372036854775808) (w5 : -9223372036854775808 ≤ imm ∧ imm < 9223372036854775808) (w6 : -9223372036854775808 ≤ shift ∧ shift < 9223372036854775808) (w7 : -9223372036854775808 ≤ cond ∧ cond < 9223372036854775808) :
    (CZR rd rn rm ra imm shift cond → L 40 3019898880 0 26 rd rn rm ra imm shift cond 3019898880 (⟨#[100, 111]⟩ : ByteArray) 26 rd rn rm ra imm shift cond = some (VZR 3019898880 rd rn rm ra imm shift cond, true)) ∧ (¬ CZR rd rn rm ra imm shift cond → ∃ v, L 40 3019898880 0 26 rd rn rm ra imm shift cond 3019898880 (⟨#[100, 111]⟩ : ByteArray) 26 rd rn rm ra imm shift cond = some (v, false)) := by
  unfold CZR VZR
  by_cases hrrd : 0 ≤ rd ∧ rd ≤ 31
  case neg => (have hr := hrrd; rw [step_take_u_bad 38 (3019898880) 0 26 rd rn rm ra imm shift cond 3019898880 (⟨#[100, 111]⟩ : ByteArray) 26 rd rn rm ra imm shift cond rd 5 0 16 31 100 (by decide) (by decide) rfl (by decide +kernel) rfl rfl rfl (by decide) (by decide +kernel) hr]; exact ⟨fun h => by omega, fun _ => ⟨0, rfl⟩⟩)
  rw [step_take_u 38 (3019898880) 0 26 rd rn rm ra imm shift cond 3019898880 (⟨#[100, 111]⟩ : ByteArray) 26 rd rn rm ra imm shift cond 1 rfl rd 5 0 16 31 100 (3019898880 + 1 * (rd % 32)) 26 0 rn rm ra imm shift cond (by decide) (by decide) rfl (by decide +kernel) rfl rfl rfl rfl rfl (by decide) (by decide) (by decide +kernel) (by decide +kernel) ((ref_or (3019898880) rd 5 0 (by decide) (by decide) (by omega) (by omega) (by simp only [Nat.reduceAdd, Nat.reducePow]; omega) (by omega) (by omega) 32 (by decide) 1 (by decide) (by omega))) (by omega) (by omega)]
  rw [show L 38 = L (30 + 8) from rfl, skip_run (3019898880 + 1 * (rd % 32)) 26 rd rn rm ra imm shift cond 3019898880 (⟨#[100, 111]⟩ : ByteArray) 26 0 rn rm ra imm shift cond 8 30 1 9 rfl (by decide) (by decide) (by decide +kernel)]
  by_cases hrimm : -262144 ≤ imm ∧ imm ≤ 262143
  case neg => (have hr := hrimm; rw [step_take_s_bad 28 (3019898880 + 1 * (rd % 32)) 9 26 rd rn rm ra imm shift cond 3019898880 (⟨#[100, 111]⟩ : ByteArray) 26 0 rn rm ra imm shift cond imm 19 5 262144 524287 111 (by decide) (by decide) rfl (by decide +kernel) rfl rfl rfl (by decide) (by decide +kernel) (by decide +kernel) (by decide +kernel) hr]; exact ⟨fun h => by omega, fun _ => ⟨0, rfl⟩⟩)
  rw [step_take_s 28 (3019898880 + 1 * (rd % 32)) 9 26 rd rn rm ra imm shift cond 3019898880 (⟨#[100, 111]⟩ : ByteArray) 26 0 rn rm ra imm shift cond 10 rfl imm 19 5 262144 524287 111 (3019898880 + 1 * (rd % 32) + 32 * (imm % 524288)) 26 0 rn rm ra 0 shift cond (by decide) (by decide) rfl (by decide +kernel) rfl rfl rfl rfl rfl (by decide) (by decide) (by decide +kernel) (by decide +kernel) (by decide +kernel) (by decide +kernel) ((ref_or (3019898880 + 1 * (rd % 32)) imm 19 5 (by decide) (by decide) (by omega) (by omega) (by simp only [Nat.reduceAdd, Nat.reducePow]; omega) (by omega) (by omega) 524288 (by decide) 32 (by decide) (by omega))) (by omega) (by omega)]
  rw [show L 28 = L (27 + 1) from rfl, skip_run (3019898880 + 1 * (rd % 32) + 32 * (imm % 524288)) 26 rd rn rm ra imm shift cond 3019898880 (⟨#[100, 111]⟩ : ByteArray) 26 0 rn rm ra 0 shift cond 1 27 10 11 rfl (by decide) (by decide) (by decide +kernel)]
  rw [step_end]
  refine ⟨fun h => ?_, fun h => ⟨_, congrArg some (Prod.ext rfl ?_)⟩⟩
  · simp only [Option.some.injEq, Prod.mk.injEq, Bool.and_eq_true, beq_iff_eq, and_true, true_and]
    omega
  · simp only [Bool.and_eq_false_iff, beq_eq_false_iff_ne]
    omega
set_option maxHeartbeats 2000000 in
theorem refl27 (rd rn rm ra imm shift cond : Int) (w1 : -9223372036854775808 ≤ rd ∧ rd < 9223372036854775808) (w2 : -9223372036854775808 ≤ rn ∧ rn < 9223372036854775808) (w3 : -9223372036854775808 ≤ rm ∧ rm < 9223372036854775808) (w4 : -9223372036854775808 ≤ ra ∧ ra < 9223372036854775808) (w5 : -9223372036854775808 ≤ imm ∧ imm < 9223372036854775808) (w6 : -9223372036854775808 ≤ shift ∧ shift < 9223372036854775808) (w7 : -9223372036854775808 ≤ cond ∧ cond < 9223372036854775808) :
    (CZR rd rn rm ra imm shift cond → L 40 3036676096 0 27 rd rn rm ra imm shift cond 3036676096 (⟨#[100, 111]⟩ : ByteArray) 27 rd rn rm ra imm shift cond = some (VZR 3036676096 rd rn rm ra imm shift cond, true)) ∧ (¬ CZR rd rn rm ra imm shift cond → ∃ v, L 40 3036676096 0 27 rd rn rm ra imm shift cond 3036676096 (⟨#[100, 111]⟩ : ByteArray) 27 rd rn rm ra imm shift cond = some (v, false)) := by
  unfold CZR VZR
  by_cases hrrd : 0 ≤ rd ∧ rd ≤ 31
  case neg => (have hr := hrrd; rw [step_take_u_bad 38 (3036676096) 0 27 rd rn rm ra imm shift cond 3036676096 (⟨#[100, 111]⟩ : ByteArray) 27 rd rn rm ra imm shift cond rd 5 0 16 31 100 (by decide) (by decide) rfl (by decide +kernel) rfl rfl rfl (by decide) (by decide +kernel) hr]; exact ⟨fun h => by omega, fun _ => ⟨0, rfl⟩⟩)
  rw [step_take_u 38 (3036676096) 0 27 rd rn rm ra imm shift cond 3036676096 (⟨#[100, 111]⟩ : ByteArray) 27 rd rn rm ra imm shift cond 1 rfl rd 5 0 16 31 100 (3036676096 + 1 * (rd % 32)) 27 0 rn rm ra imm shift cond (by decide) (by decide) rfl (by decide +kernel) rfl rfl rfl rfl rfl (by decide) (by decide) (by decide +kernel) (by decide +kernel) ((ref_or (3036676096) rd 5 0 (by decide) (by decide) (by omega) (by omega) (by simp only [Nat.reduceAdd, Nat.reducePow]; omega) (by omega) (by omega) 32 (by decide) 1 (by decide) (by omega))) (by omega) (by omega)]
  rw [show L 38 = L (30 + 8) from rfl, skip_run (3036676096 + 1 * (rd % 32)) 27 rd rn rm ra imm shift cond 3036676096 (⟨#[100, 111]⟩ : ByteArray) 27 0 rn rm ra imm shift cond 8 30 1 9 rfl (by decide) (by decide) (by decide +kernel)]
  by_cases hrimm : -262144 ≤ imm ∧ imm ≤ 262143
  case neg => (have hr := hrimm; rw [step_take_s_bad 28 (3036676096 + 1 * (rd % 32)) 9 27 rd rn rm ra imm shift cond 3036676096 (⟨#[100, 111]⟩ : ByteArray) 27 0 rn rm ra imm shift cond imm 19 5 262144 524287 111 (by decide) (by decide) rfl (by decide +kernel) rfl rfl rfl (by decide) (by decide +kernel) (by decide +kernel) (by decide +kernel) hr]; exact ⟨fun h => by omega, fun _ => ⟨0, rfl⟩⟩)
  rw [step_take_s 28 (3036676096 + 1 * (rd % 32)) 9 27 rd rn rm ra imm shift cond 3036676096 (⟨#[100, 111]⟩ : ByteArray) 27 0 rn rm ra imm shift cond 10 rfl imm 19 5 262144 524287 111 (3036676096 + 1 * (rd % 32) + 32 * (imm % 524288)) 27 0 rn rm ra 0 shift cond (by decide) (by decide) rfl (by decide +kernel) rfl rfl rfl rfl rfl (by decide) (by decide) (by decide +kernel) (by decide +kernel) (by decide +kernel) (by decide +kernel) ((ref_or (3036676096 + 1 * (rd % 32)) imm 19 5 (by decide) (by decide) (by omega) (by omega) (by simp only [Nat.reduceAdd, Nat.reducePow]; omega) (by omega) (by omega) 524288 (by decide) 32 (by decide) (by omega))) (by omega) (by omega)]
  rw [show L 28 = L (27 + 1) from rfl, skip_run (3036676096 + 1 * (rd % 32) + 32 * (imm % 524288)) 27 rd rn rm ra imm shift cond 3036676096 (⟨#[100, 111]⟩ : ByteArray) 27 0 rn rm ra 0 shift cond 1 27 10 11 rfl (by decide) (by decide) (by decide +kernel)]
  rw [step_end]
  refine ⟨fun h => ?_, fun h => ⟨_, congrArg some (Prod.ext rfl ?_)⟩⟩
  · simp only [Option.some.injEq, Prod.mk.injEq, Bool.and_eq_true, beq_iff_eq, and_true, true_and]
    omega
  · simp only [Bool.and_eq_false_iff, beq_eq_false_iff_ne]
    omega
set_option maxHeartbeats 2000000 in
theorem refl28 (rd rn rm ra imm shift cond : Int) (w1 : -9223372036854775808 ≤ rd ∧ rd < 9223372036854775808) (w2 : -9223372036854775808 ≤ rn ∧ rn < 9223372036854775808) (w3 : -9223372036854775808 ≤ rm ∧ rm < 9223372036854775808) (w4 : -9223372036854775808 ≤ ra ∧ ra < 9223372036854775808) (w5 : -9223372036854775808 ≤ imm ∧ imm < 9223372036854775808) (w6 : -9223372036854775808 ≤ shift ∧ shift < 9223372036854775808) (w7 : -9223372036854775808 ≤ cond ∧ cond < 9223372036854775808) :
    (CRT rd rn rm ra imm shift cond → L 40 3596550144 0 28 rd rn rm ra imm shift cond 3596550144 (⟨#[110]⟩ : ByteArray) 28 rd rn rm ra imm shift cond = some (VRT 3596550144 rd rn rm ra imm shift cond, true)) ∧ (¬ CRT rd rn rm ra imm shift cond → ∃ v, L 40 3596550144 0 28 rd rn rm ra imm shift cond 3596550144 (⟨#[110]⟩ : ByteArray) 28 rd rn rm ra imm shift cond = some (v, false)) := by
  unfold CRT VRT
  rw [show L 40 = L (39 + 1) from rfl, skip_run (3596550144) 28 rd rn rm ra imm shift cond 3596550144 (⟨#[110]⟩ : ByteArray) 28 rd rn rm ra imm shift cond 1 39 0 1 rfl (by decide) (by decide) (by decide +kernel)]
  by_cases hrrn : 0 ≤ rn ∧ rn ≤ 31
  case neg => (have hr := hrrn; rw [step_take_u_bad 37 (3596550144) 1 28 rd rn rm ra imm shift cond 3596550144 (⟨#[110]⟩ : ByteArray) 28 rd rn rm ra imm shift cond rn 5 5 16 31 110 (by decide) (by decide) rfl (by decide +kernel) rfl rfl rfl (by decide) (by decide +kernel) hr]; exact ⟨fun h => by omega, fun _ => ⟨0, rfl⟩⟩)
  rw [step_take_u 37 (3596550144) 1 28 rd rn rm ra imm shift cond 3596550144 (⟨#[110]⟩ : ByteArray) 28 rd rn rm ra imm shift cond 2 rfl rn 5 5 16 31 110 (3596550144 + 32 * (rn % 32)) 28 rd 0 rm ra imm shift cond (by decide) (by decide) rfl (by decide +kernel) rfl rfl rfl rfl rfl (by decide) (by decide) (by decide +kernel) (by decide +kernel) ((ref_or (3596550144) rn 5 5 (by decide) (by decide) (by omega) (by omega) (by simp only [Nat.reduceAdd, Nat.reducePow]; omega) (by omega) (by omega) 32 (by decide) 32 (by decide) (by omega))) (by omega) (by omega)]
  rw [show L 37 = L (28 + 9) from rfl, skip_run (3596550144 + 32 * (rn % 32)) 28 rd rn rm ra imm shift cond 3596550144 (⟨#[110]⟩ : ByteArray) 28 rd 0 rm ra imm shift cond 9 28 2 11 rfl (by decide) (by decide) (by decide +kernel)]
  rw [step_end]
  refine ⟨fun h => ?_, fun h => ⟨_, congrArg some (Prod.ext rfl ?_)⟩⟩
  · simp only [Option.some.injEq, Prod.mk.injEq, Bool.and_eq_true, beq_iff_eq, and_true, true_and]
    omega
  · simp only [Bool.and_eq_false_iff, beq_eq_false_iff_ne]
    omega
set_option maxHeartbeats 2000000 in
theorem refl29 (rd rn rm ra imm shift cond : Int) (w1 : -9223372036854775808 ≤ rd ∧ rd < 9223372036854775808) (w2 : -9223372036854775808 ≤ rn ∧ rn < 9223372036854775808) (w3 : -9223372036854775808 ≤ rm ∧ rm < 9223372036854775808) (w4 : -9223372036854775808 ≤ ra ∧ ra < 9223372036854775808) (w5 : -9223372036854775808 ≤ imm ∧ imm < 9223372036854775808) (w6 : -9223372036854775808 ≤ shift ∧ shift < 9223372036854775808) (w7 : -9223372036854775808 ≤ cond ∧ cond < 9223372036854775808) :
    (CSV rd rn rm ra imm shift cond → L 40 3556769793 0 29 rd rn rm ra imm shift cond 3556769793 (⟨#[119]⟩ : ByteArray) 29 rd rn rm ra imm shift cond = some (VSV 3556769793 rd rn rm ra imm shift cond, true)) ∧ (¬ CSV rd rn rm ra imm shift cond → ∃ v, L 40 3556769793 0 29 rd rn rm ra imm shift cond 3556769793 (⟨#[119]⟩ : ByteArray) 29 rd rn rm ra imm shift cond = some (v, false)) := by
  unfold CSV VSV
  rw [show L 40 = L (35 + 5) from rfl, skip_run (3556769793) 29 rd rn rm ra imm shift cond 3556769793 (⟨#[119]⟩ : ByteArray) 29 rd rn rm ra imm shift cond 5 35 0 5 rfl (by decide) (by decide) (by decide +kernel)]
  by_cases hrimm : 0 ≤ imm ∧ imm ≤ 65535
  case neg => (have hr := hrimm; rw [step_take_u_bad 33 (3556769793) 5 29 rd rn rm ra imm shift cond 3556769793 (⟨#[119]⟩ : ByteArray) 29 rd rn rm ra imm shift cond imm 16 5 32768 65535 119 (by decide) (by decide) rfl (by decide +kernel) rfl rfl rfl (by decide) (by decide +kernel) hr]; exact ⟨fun h => by omega, fun _ => ⟨0, rfl⟩⟩)
  rw [step_take_u 33 (3556769793) 5 29 rd rn rm ra imm shift cond 3556769793 (⟨#[119]⟩ : ByteArray) 29 rd rn rm ra imm shift cond 6 rfl imm 16 5 32768 65535 119 (3556769793 + 32 * (imm % 65536)) 29 rd rn rm ra 0 shift cond (by decide) (by decide) rfl (by decide +kernel) rfl rfl rfl rfl rfl (by decide) (by decide) (by decide +kernel) (by decide +kernel) ((ref_or (3556769793) imm 16 5 (by decide) (by decide) (by omega) (by omega) (by simp only [Nat.reduceAdd, Nat.reducePow]; omega) (by omega) (by omega) 65536 (by decide) 32 (by decide) (by omega))) (by omega) (by omega)]
  rw [show L 33 = L (28 + 5) from rfl, skip_run (3556769793 + 32 * (imm % 65536)) 29 rd rn rm ra imm shift cond 3556769793 (⟨#[119]⟩ : ByteArray) 29 rd rn rm ra 0 shift cond 5 28 6 11 rfl (by decide) (by decide) (by decide +kernel)]
  rw [step_end]
  refine ⟨fun h => ?_, fun h => ⟨_, congrArg some (Prod.ext rfl ?_)⟩⟩
  · simp only [Option.some.injEq, Prod.mk.injEq, Bool.and_eq_true, beq_iff_eq, and_true, true_and]
    omega
  · simp only [Bool.and_eq_false_iff, beq_eq_false_iff_ne]
    omega
set_option maxHeartbeats 2000000 in
theorem refl30 (rd rn rm ra imm shift cond : Int) (w1 : -9223372036854775808 ≤ rd ∧ rd < 9223372036854775808) (w2 : -9223372036854775808 ≤ rn ∧ rn < 9223372036854775808) (w3 : -9223372036854775808 ≤ rm ∧ rm < 9223372036854775808) (w4 : -9223372036854775808 ≤ ra ∧ ra < 9223372036854775808) (w5 : -9223372036854775808 ≤ imm ∧ imm < 9223372036854775808) (w6 : -9223372036854775808 ≤ shift ∧ shift < 9223372036854775808) (w7 : -9223372036854775808 ≤ cond ∧ cond < 9223372036854775808) :
    (CSV rd rn rm ra imm shift cond → L 40 3558866944 0 30 rd rn rm ra imm shift cond 3558866944 (⟨#[119]⟩ : ByteArray) 30 rd rn rm ra imm shift cond = some (VSV 3558866944 rd rn rm ra imm shift cond, true)) ∧ (¬ CSV rd rn rm ra imm shift cond → ∃ v, L 40 3558866944 0 30 rd rn rm ra imm shift cond 3558866944 (⟨#[119]⟩ : ByteArray) 30 rd rn rm ra imm shift cond = some (v, false)) := by
  unfold CSV VSV
  rw [show L 40 = L (35 + 5) from rfl, skip_run (3558866944) 30 rd rn rm ra imm shift cond 3558866944 (⟨#[119]⟩ : ByteArray) 30 rd rn rm ra imm shift cond 5 35 0 5 rfl (by decide) (by decide) (by decide +kernel)]
  by_cases hrimm : 0 ≤ imm ∧ imm ≤ 65535
  case neg => (have hr := hrimm; rw [step_take_u_bad 33 (3558866944) 5 30 rd rn rm ra imm shift cond 3558866944 (⟨#[119]⟩ : ByteArray) 30 rd rn rm ra imm shift cond imm 16 5 32768 65535 119 (by decide) (by decide) rfl (by decide +kernel) rfl rfl rfl (by decide) (by decide +kernel) hr]; exact ⟨fun h => by omega, fun _ => ⟨0, rfl⟩⟩)
  rw [step_take_u 33 (3558866944) 5 30 rd rn rm ra imm shift cond 3558866944 (⟨#[119]⟩ : ByteArray) 30 rd rn rm ra imm shift cond 6 rfl imm 16 5 32768 65535 119 (3558866944 + 32 * (imm % 65536)) 30 rd rn rm ra 0 shift cond (by decide) (by decide) rfl (by decide +kernel) rfl rfl rfl rfl rfl (by decide) (by decide) (by decide +kernel) (by decide +kernel) ((ref_or (3558866944) imm 16 5 (by decide) (by decide) (by omega) (by omega) (by simp only [Nat.reduceAdd, Nat.reducePow]; omega) (by omega) (by omega) 65536 (by decide) 32 (by decide) (by omega))) (by omega) (by omega)]
  rw [show L 33 = L (28 + 5) from rfl, skip_run (3558866944 + 32 * (imm % 65536)) 30 rd rn rm ra imm shift cond 3558866944 (⟨#[119]⟩ : ByteArray) 30 rd rn rm ra 0 shift cond 5 28 6 11 rfl (by decide) (by decide) (by decide +kernel)]
  rw [step_end]
  refine ⟨fun h => ?_, fun h => ⟨_, congrArg some (Prod.ext rfl ?_)⟩⟩
  · simp only [Option.some.injEq, Prod.mk.injEq, Bool.and_eq_true, beq_iff_eq, and_true, true_and]
    omega
  · simp only [Bool.and_eq_false_iff, beq_eq_false_iff_ne]
    omega
set_option maxHeartbeats 2000000 in
theorem refl31 (rd rn rm ra imm shift cond : Int) (w1 : -9223372036854775808 ≤ rd ∧ rd < 9223372036854775808) (w2 : -9223372036854775808 ≤ rn ∧ rn < 9223372036854775808) (w3 : -9223372036854775808 ≤ rm ∧ rm < 9223372036854775808) (w4 : -9223372036854775808 ≤ ra ∧ ra < 9223372036854775808) (w5 : -9223372036854775808 ≤ imm ∧ imm < 9223372036854775808) (w6 : -9223372036854775808 ≤ shift ∧ shift < 9223372036854775808) (w7 : -9223372036854775808 ≤ cond ∧ cond < 9223372036854775808) :
    (CST rd rn rm ra imm shift cond → L 40 3573751839 0 31 rd rn rm ra imm shift cond 3573751839 (⟨#[]⟩ : ByteArray) 31 rd rn rm ra imm shift cond = some (VST 3573751839 rd rn rm ra imm shift cond, true)) ∧ (¬ CST rd rn rm ra imm shift cond → ∃ v, L 40 3573751839 0 31 rd rn rm ra imm shift cond 3573751839 (⟨#[]⟩ : ByteArray) 31 rd rn rm ra imm shift cond = some (v, false)) := by
  unfold CST VST
  rw [show L 40 = L (29 + 11) from rfl, skip_run (3573751839) 31 rd rn rm ra imm shift cond 3573751839 (⟨#[]⟩ : ByteArray) 31 rd rn rm ra imm shift cond 11 29 0 11 rfl (by decide) (by decide) (by decide +kernel)]
  rw [step_end]
  refine ⟨fun h => ?_, fun h => ⟨_, congrArg some (Prod.ext rfl ?_)⟩⟩
  · simp only [Option.some.injEq, Prod.mk.injEq, Bool.and_eq_true, beq_iff_eq, and_true, true_and]
    omega
  · simp only [Bool.and_eq_false_iff, beq_eq_false_iff_ne]
    omega
set_option maxHeartbeats 2000000 in
theorem refl1 (rd rn rm ra imm shift cond : Int) (w1 : -9223372036854775808 ≤ rd ∧ rd < 9223372036854775808) (w2 : -9223372036854775808 ≤ rn ∧ rn < 9223372036854775808) (w3 : -9223372036854775808 ≤ rm ∧ rm < 9223372036854775808) (w4 : -9223372036854775808 ≤ ra ∧ ra < 9223372036854775808) (w5 : -9223372036854775808 ≤ imm ∧ imm < 9223372036854775808) (w6 : -9223372036854775808 ≤ shift ∧ shift < 9223372036854775808) (w7 : -9223372036854775808 ≤ cond ∧ cond < 9223372036854775808) :
    (CR3 rd rn rm ra imm shift cond → L 40 2332033024 0 1 rd rn rm ra imm shift cond 2332033024 (⟨#[100, 110, 109]⟩ : ByteArray) 1 rd rn rm ra imm shift cond = some (VR3 2332033024 rd rn rm ra imm shift cond, true)) ∧ (¬ CR3 rd rn rm ra imm shift cond → ∃ v, L 40 2332033024 0 1 rd rn rm ra imm shift cond 2332033024 (⟨#[100, 110, 109]⟩ : ByteArray) 1 rd rn rm ra imm shift cond = some (v, false)) := by
  unfold CR3 VR3
  by_cases hrrd : 0 ≤ rd ∧ rd ≤ 31
  case neg => (have hr := hrrd; rw [step_take_u_bad 38 (2332033024) 0 1 rd rn rm ra imm shift cond 2332033024 (⟨#[100, 110, 109]⟩ : ByteArray) 1 rd rn rm ra imm shift cond rd 5 0 16 31 100 (by decide) (by decide) rfl (by decide +kernel) rfl rfl rfl (by decide) (by decide +kernel) hr]; exact ⟨fun h => by omega, fun _ => ⟨0, rfl⟩⟩)
  rw [step_take_u 38 (2332033024) 0 1 rd rn rm ra imm shift cond 2332033024 (⟨#[100, 110, 109]⟩ : ByteArray) 1 rd rn rm ra imm shift cond 1 rfl rd 5 0 16 31 100 (2332033024 + 1 * (rd % 32)) 1 0 rn rm ra imm shift cond (by decide) (by decide) rfl (by decide +kernel) rfl rfl rfl rfl rfl (by decide) (by decide) (by decide +kernel) (by decide +kernel) ((ref_or (2332033024) rd 5 0 (by decide) (by decide) (by omega) (by omega) (by simp only [Nat.reduceAdd, Nat.reducePow]; omega) (by omega) (by omega) 32 (by decide) 1 (by decide) (by omega))) (by omega) (by omega)]
  by_cases hrrn : 0 ≤ rn ∧ rn ≤ 31
  case neg => (have hr := hrrn; rw [step_take_u_bad 36 (2332033024 + 1 * (rd % 32)) 1 1 rd rn rm ra imm shift cond 2332033024 (⟨#[100, 110, 109]⟩ : ByteArray) 1 0 rn rm ra imm shift cond rn 5 5 16 31 110 (by decide) (by decide) rfl (by decide +kernel) rfl rfl rfl (by decide) (by decide +kernel) hr]; exact ⟨fun h => by omega, fun _ => ⟨0, rfl⟩⟩)
  rw [step_take_u 36 (2332033024 + 1 * (rd % 32)) 1 1 rd rn rm ra imm shift cond 2332033024 (⟨#[100, 110, 109]⟩ : ByteArray) 1 0 rn rm ra imm shift cond 2 rfl rn 5 5 16 31 110 (2332033024 + 1 * (rd % 32) + 32 * (rn % 32)) 1 0 0 rm ra imm shift cond (by decide) (by decide) rfl (by decide +kernel) rfl rfl rfl rfl rfl (by decide) (by decide) (by decide +kernel) (by decide +kernel) ((ref_or (2332033024 + 1 * (rd % 32)) rn 5 5 (by decide) (by decide) (by omega) (by omega) (by simp only [Nat.reduceAdd, Nat.reducePow]; omega) (by omega) (by omega) 32 (by decide) 32 (by decide) (by omega))) (by omega) (by omega)]
  by_cases hrrm : 0 ≤ rm ∧ rm ≤ 31
  case neg => (have hr := hrrm; rw [step_take_u_bad 34 (2332033024 + 1 * (rd % 32) + 32 * (rn % 32)) 2 1 rd rn rm ra imm shift cond 2332033024 (⟨#[100, 110, 109]⟩ : ByteArray) 1 0 0 rm ra imm shift cond rm 5 16 16 31 109 (by decide) (by decide) rfl (by decide +kernel) rfl rfl rfl (by decide) (by decide +kernel) hr]; exact ⟨fun h => by omega, fun _ => ⟨0, rfl⟩⟩)
  rw [step_take_u 34 (2332033024 + 1 * (rd % 32) + 32 * (rn % 32)) 2 1 rd rn rm ra imm shift cond 2332033024 (⟨#[100, 110, 109]⟩ : ByteArray) 1 0 0 rm ra imm shift cond 3 rfl rm 5 16 16 31 109 (2332033024 + 1 * (rd % 32) + 32 * (rn % 32) + 65536 * (rm % 32)) 1 0 0 0 ra imm shift cond (by decide) (by decide) rfl (by decide +kernel) rfl rfl rfl rfl rfl (by decide) (by decide) (by decide +kernel) (by decide +kernel) ((ref_or (2332033024 + 1 * (rd % 32) + 32 * (rn % 32)) rm 5 16 (by decide) (by decide) (by omega) (by omega) (by simp only [Nat.reduceAdd, Nat.reducePow]; omega) (by omega) (by omega) 32 (by decide) 65536 (by decide) (by omega))) (by omega) (by omega)]
  rw [show L 34 = L (26 + 8) from rfl, skip_run (2332033024 + 1 * (rd % 32) + 32 * (rn % 32) + 65536 * (rm % 32)) 1 rd rn rm ra imm shift cond 2332033024 (⟨#[100, 110, 109]⟩ : ByteArray) 1 0 0 0 ra imm shift cond 8 26 3 11 rfl (by decide) (by decide) (by decide +kernel)]
  rw [step_end]
  refine ⟨fun h => ?_, fun h => ⟨_, congrArg some (Prod.ext rfl ?_)⟩⟩
  · simp only [Option.some.injEq, Prod.mk.injEq, Bool.and_eq_true, beq_iff_eq, and_true, true_and]
    omega
  · simp only [Bool.and_eq_false_iff, beq_eq_false_iff_ne]
    omega
set_option maxHeartbeats 2000000 in
theorem refl2 (rd rn rm ra imm shift cond : Int) (w1 : -9223372036854775808 ≤ rd ∧ rd < 9223372036854775808) (w2 : -9223372036854775808 ≤ rn ∧ rn < 9223372036854775808) (w3 : -9223372036854775808 ≤ rm ∧ rm < 9223372036854775808) (w4 : -9223372036854775808 ≤ ra ∧ ra < 9223372036854775808) (w5 : -9223372036854775808 ≤ imm ∧ imm < 9223372036854775808) (w6 : -9223372036854775808 ≤ shift ∧ shift < 9223372036854775808) (w7 : -9223372036854775808 ≤ cond ∧ cond < 9223372036854775808) :
    (CR3 rd rn rm ra imm shift cond → L 40 3405774848 0 2 rd rn rm ra imm shift cond 3405774848 (⟨#[100, 110, 109]⟩ : ByteArray) 2 rd rn rm ra imm shift cond = some (VR3 3405774848 rd rn rm ra imm shift cond, true)) ∧ (¬ CR3 rd rn rm ra imm shift cond → ∃ v, L 40 3405774848 0 2 rd rn rm ra imm shift cond 3405774848 (⟨#[100, 110, 109]⟩ : ByteArray) 2 rd rn rm ra imm shift cond = some (v, false)) := by
  unfold CR3 VR3
  by_cases hrrd : 0 ≤ rd ∧ rd ≤ 31
  case neg => (have hr := hrrd; rw [step_take_u_bad 38 (3405774848) 0 2 rd rn rm ra imm shift cond 3405774848 (⟨#[100, 110, 109]⟩ : ByteArray) 2 rd rn rm ra imm shift cond rd 5 0 16 31 100 (by decide) (by decide) rfl (by decide +kernel) rfl rfl rfl (by decide) (by decide +kernel) hr]; exact ⟨fun h => by omega, fun _ => ⟨0, rfl⟩⟩)
  rw [step_take_u 38 (3405774848) 0 2 rd rn rm ra imm shift cond 3405774848 (⟨#[100, 110, 109]⟩ : ByteArray) 2 rd rn rm ra imm shift cond 1 rfl rd 5 0 16 31 100 (3405774848 + 1 * (rd % 32)) 2 0 rn rm ra imm shift cond (by decide) (by decide) rfl (by decide +kernel) rfl rfl rfl rfl rfl (by decide) (by decide) (by decide +kernel) (by decide +kernel) ((ref_or (3405774848) rd 5 0 (by decide) (by decide) (by omega) (by omega) (by simp only [Nat.reduceAdd, Nat.reducePow]; omega) (by omega) (by omega) 32 (by decide) 1 (by decide) (by omega))) (by omega) (by omega)]
  by_cases hrrn : 0 ≤ rn ∧ rn ≤ 31
  case neg => (have hr := hrrn; rw [step_take_u_bad 36 (3405774848 + 1 * (rd % 32)) 1 2 rd rn rm ra imm shift cond 3405774848 (⟨#[100, 110, 109]⟩ : ByteArray) 2 0 rn rm ra imm shift cond rn 5 5 16 31 110 (by decide) (by decide) rfl (by decide +kernel) rfl rfl rfl (by decide) (by decide +kernel) hr]; exact ⟨fun h => by omega, fun _ => ⟨0, rfl⟩⟩)
  rw [step_take_u 36 (3405774848 + 1 * (rd % 32)) 1 2 rd rn rm ra imm shift cond 3405774848 (⟨#[100, 110, 109]⟩ : ByteArray) 2 0 rn rm ra imm shift cond 2 rfl rn 5 5 16 31 110 (3405774848 + 1 * (rd % 32) + 32 * (rn % 32)) 2 0 0 rm ra imm shift cond (by decide) (by decide) rfl (by decide +kernel) rfl rfl rfl rfl rfl (by decide) (by decide) (by decide +kernel) (by decide +kernel) ((ref_or (3405774848 + 1 * (rd % 32)) rn 5 5 (by decide) (by decide) (by omega) (by omega) (by simp only [Nat.reduceAdd, Nat.reducePow]; omega) (by omega) (by omega) 32 (by decide) 32 (by decide) (by omega))) (by omega) (by omega)]
  by_cases hrrm : 0 ≤ rm ∧ rm ≤ 31
  case neg => (have hr := hrrm; rw [step_take_u_bad 34 (3405774848 + 1 * (rd % 32) + 32 * (rn % 32)) 2 2 rd rn rm ra imm shift cond 3405774848 (⟨#[100, 110, 109]⟩ : ByteArray) 2 0 0 rm ra imm shift cond rm 5 16 16 31 109 (by decide) (by decide) rfl (by decide +kernel) rfl rfl rfl (by decide) (by decide +kernel) hr]; exact ⟨fun h => by omega, fun _ => ⟨0, rfl⟩⟩)
  rw [step_take_u 34 (3405774848 + 1 * (rd % 32) + 32 * (rn % 32)) 2 2 rd rn rm ra imm shift cond 3405774848 (⟨#[100, 110, 109]⟩ : ByteArray) 2 0 0 rm ra imm shift cond 3 rfl rm 5 16 16 31 109 (3405774848 + 1 * (rd % 32) + 32 * (rn % 32) + 65536 * (rm % 32)) 2 0 0 0 ra imm shift cond (by decide) (by decide) rfl (by decide +kernel) rfl rfl rfl rfl rfl (by decide) (by decide) (by decide +kernel) (by decide +kernel) ((ref_or (3405774848 + 1 * (rd % 32) + 32 * (rn % 32)) rm 5 16 (by decide) (by decide) (by omega) (by omega) (by simp only [Nat.reduceAdd, Nat.reducePow]; omega) (by omega) (by omega) 32 (by decide) 65536 (by decide) (by omega))) (by omega) (by omega)]
  rw [show L 34 = L (26 + 8) from rfl, skip_run (3405774848 + 1 * (rd % 32) + 32 * (rn % 32) + 65536 * (rm % 32)) 2 rd rn rm ra imm shift cond 3405774848 (⟨#[100, 110, 109]⟩ : ByteArray) 2 0 0 0 ra imm shift cond 8 26 3 11 rfl (by decide) (by decide) (by decide +kernel)]
  rw [step_end]
  refine ⟨fun h => ?_, fun h => ⟨_, congrArg some (Prod.ext rfl ?_)⟩⟩
  · simp only [Option.some.injEq, Prod.mk.injEq, Bool.and_eq_true, beq_iff_eq, and_true, true_and]
    omega
  · simp only [Bool.and_eq_false_iff, beq_eq_false_iff_ne]
    omega
set_option maxHeartbeats 2000000 in
theorem refl3 (rd rn rm ra imm shift cond : Int) (w1 : -9223372036854775808 ≤ rd ∧ rd < 9223372036854775808) (w2 : -9223372036854775808 ≤ rn ∧ rn < 9223372036854775808) (w3 : -9223372036854775808 ≤ rm ∧ rm < 9223372036854775808) (w4 : -9223372036854775808 ≤ ra ∧ ra < 9223372036854775808) (w5 : -9223372036854775808 ≤ imm ∧ imm < 9223372036854775808) (w6 : -9223372036854775808 ≤ shift ∧ shift < 9223372036854775808) (w7 : -9223372036854775808 ≤ cond ∧ cond < 9223372036854775808) :
    (CR3 rd rn rm ra imm shift cond → L 40 3942645760 0 3 rd rn rm ra imm shift cond 3942645760 (⟨#[100, 110, 109]⟩ : ByteArray) 3 rd rn rm ra imm shift cond = some (VR3 3942645760 rd rn rm ra imm shift cond, true)) ∧ (¬ CR3 rd rn rm ra imm shift cond → ∃ v, L 40 3942645760 0 3 rd rn rm ra imm shift cond 3942645760 (⟨#[100, 110, 109]⟩ : ByteArray) 3 rd rn rm ra imm shift cond = some (v, false)) := by
  unfold CR3 VR3
  by_cases hrrd : 0 ≤ rd ∧ rd ≤ 31
  case neg => (have hr := hrrd; rw [step_take_u_bad 38 (3942645760) 0 3 rd rn rm ra imm shift cond 3942645760 (⟨#[100, 110, 109]⟩ : ByteArray) 3 rd rn rm ra imm shift cond rd 5 0 16 31 100 (by decide) (by decide) rfl (by decide +kernel) rfl rfl rfl (by decide) (by decide +kernel) hr]; exact ⟨fun h => by omega, fun _ => ⟨0, rfl⟩⟩)
  rw [step_take_u 38 (3942645760) 0 3 rd rn rm ra imm shift cond 3942645760 (⟨#[100, 110, 109]⟩ : ByteArray) 3 rd rn rm ra imm shift cond 1 rfl rd 5 0 16 31 100 (3942645760 + 1 * (rd % 32)) 3 0 rn rm ra imm shift cond (by decide) (by decide) rfl (by decide +kernel) rfl rfl rfl rfl rfl (by decide) (by decide) (by decide +kernel) (by decide +kernel) ((ref_or (3942645760) rd 5 0 (by decide) (by decide) (by omega) (by omega) (by simp only [Nat.reduceAdd, Nat.reducePow]; omega) (by omega) (by omega) 32 (by decide) 1 (by decide) (by omega))) (by omega) (by omega)]
  by_cases hrrn : 0 ≤ rn ∧ rn ≤ 31
  case neg => (have hr := hrrn; rw [step_take_u_bad 36 (3942645760 + 1 * (rd % 32)) 1 3 rd rn rm ra imm shift cond 3942645760 (⟨#[100, 110, 109]⟩ : ByteArray) 3 0 rn rm ra imm shift cond rn 5 5 16 31 110 (by decide) (by decide) rfl (by decide +kernel) rfl rfl rfl (by decide) (by decide +kernel) hr]; exact ⟨fun h => by omega, fun _ => ⟨0, rfl⟩⟩)
  rw [step_take_u 36 (3942645760 + 1 * (rd % 32)) 1 3 rd rn rm ra imm shift cond 3942645760 (⟨#[100, 110, 109]⟩ : ByteArray) 3 0 rn rm ra imm shift cond 2 rfl rn 5 5 16 31 110 (3942645760 + 1 * (rd % 32) + 32 * (rn % 32)) 3 0 0 rm ra imm shift cond (by decide) (by decide) rfl (by decide +kernel) rfl rfl rfl rfl rfl (by decide) (by decide) (by decide +kernel) (by decide +kernel) ((ref_or (3942645760 + 1 * (rd % 32)) rn 5 5 (by decide) (by decide) (by omega) (by omega) (by simp only [Nat.reduceAdd, Nat.reducePow]; omega) (by omega) (by omega) 32 (by decide) 32 (by decide) (by omega))) (by omega) (by omega)]
  by_cases hrrm : 0 ≤ rm ∧ rm ≤ 31
  case neg => (have hr := hrrm; rw [step_take_u_bad 34 (3942645760 + 1 * (rd % 32) + 32 * (rn % 32)) 2 3 rd rn rm ra imm shift cond 3942645760 (⟨#[100, 110, 109]⟩ : ByteArray) 3 0 0 rm ra imm shift cond rm 5 16 16 31 109 (by decide) (by decide) rfl (by decide +kernel) rfl rfl rfl (by decide) (by decide +kernel) hr]; exact ⟨fun h => by omega, fun _ => ⟨0, rfl⟩⟩)
  rw [step_take_u 34 (3942645760 + 1 * (rd % 32) + 32 * (rn % 32)) 2 3 rd rn rm ra imm shift cond 3942645760 (⟨#[100, 110, 109]⟩ : ByteArray) 3 0 0 rm ra imm shift cond 3 rfl rm 5 16 16 31 109 (3942645760 + 1 * (rd % 32) + 32 * (rn % 32) + 65536 * (rm % 32)) 3 0 0 0 ra imm shift cond (by decide) (by decide) rfl (by decide +kernel) rfl rfl rfl rfl rfl (by decide) (by decide) (by decide +kernel) (by decide +kernel) ((ref_or (3942645760 + 1 * (rd % 32) + 32 * (rn % 32)) rm 5 16 (by decide) (by decide) (by omega) (by omega) (by simp only [Nat.reduceAdd, Nat.reducePow]; omega) (by omega) (by omega) 32 (by decide) 65536 (by decide) (by omega))) (by omega) (by omega)]
  rw [show L 34 = L (26 + 8) from rfl, skip_run (3942645760 + 1 * (rd % 32) + 32 * (rn % 32) + 65536 * (rm % 32)) 3 rd rn rm ra imm shift cond 3942645760 (⟨#[100, 110, 109]⟩ : ByteArray) 3 0 0 0 ra imm shift cond 8 26 3 11 rfl (by decide) (by decide) (by decide +kernel)]
  rw [step_end]
  refine ⟨fun h => ?_, fun h => ⟨_, congrArg some (Prod.ext rfl ?_)⟩⟩
  · simp only [Option.some.injEq, Prod.mk.injEq, Bool.and_eq_true, beq_iff_eq, and_true, true_and]
    omega
  · simp only [Bool.and_eq_false_iff, beq_eq_false_iff_ne]
    omega
set_option maxHeartbeats 2000000 in
theorem refl7 (rd rn rm ra imm shift cond : Int) (w1 : -9223372036854775808 ≤ rd ∧ rd < 9223372036854775808) (w2 : -9223372036854775808 ≤ rn ∧ rn < 9223372036854775808) (w3 : -9223372036854775808 ≤ rm ∧ rm < 9223372036854775808) (w4 : -9223372036854775808 ≤ ra ∧ ra < 9223372036854775808) (w5 : -9223372036854775808 ≤ imm ∧ imm < 9223372036854775808) (w6 : -9223372036854775808 ≤ shift ∧ shift < 9223372036854775808) (w7 : -9223372036854775808 ≤ cond ∧ cond < 9223372036854775808) :
    (CR3 rd rn rm ra imm shift cond → L 40 2315255808 0 7 rd rn rm ra imm shift cond 2315255808 (⟨#[100, 110, 109]⟩ : ByteArray) 7 rd rn rm ra imm shift cond = some (VR3 2315255808 rd rn rm ra imm shift cond, true)) ∧ (¬ CR3 rd rn rm ra imm shift cond → ∃ v, L 40 2315255808 0 7 rd rn rm ra imm shift cond 2315255808 (⟨#[100, 110, 109]⟩ : ByteArray) 7 rd rn rm ra imm shift cond = some (v, false)) := by
  unfold CR3 VR3
  by_cases hrrd : 0 ≤ rd ∧ rd ≤ 31
  case neg => (have hr := hrrd; rw [step_take_u_bad 38 (2315255808) 0 7 rd rn rm ra imm shift cond 2315255808 (⟨#[100, 110, 109]⟩ : ByteArray) 7 rd rn rm ra imm shift cond rd 5 0 16 31 100 (by decide) (by decide) rfl (by decide +kernel) rfl rfl rfl (by decide) (by decide +kernel) hr]; exact ⟨fun h => by omega, fun _ => ⟨0, rfl⟩⟩)
  rw [step_take_u 38 (2315255808) 0 7 rd rn rm ra imm shift cond 2315255808 (⟨#[100, 110, 109]⟩ : ByteArray) 7 rd rn rm ra imm shift cond 1 rfl rd 5 0 16 31 100 (2315255808 + 1 * (rd % 32)) 7 0 rn rm ra imm shift cond (by decide) (by decide) rfl (by decide +kernel) rfl rfl rfl rfl rfl (by decide) (by decide) (by decide +kernel) (by decide +kernel) ((ref_or (2315255808) rd 5 0 (by decide) (by decide) (by omega) (by omega) (by simp only [Nat.reduceAdd, Nat.reducePow]; omega) (by omega) (by omega) 32 (by decide) 1 (by decide) (by omega))) (by omega) (by omega)]
  by_cases hrrn : 0 ≤ rn ∧ rn ≤ 31
  case neg => (have hr := hrrn; rw [step_take_u_bad 36 (2315255808 + 1 * (rd % 32)) 1 7 rd rn rm ra imm shift cond 2315255808 (⟨#[100, 110, 109]⟩ : ByteArray) 7 0 rn rm ra imm shift cond rn 5 5 16 31 110 (by decide) (by decide) rfl (by decide +kernel) rfl rfl rfl (by decide) (by decide +kernel) hr]; exact ⟨fun h => by omega, fun _ => ⟨0, rfl⟩⟩)
  rw [step_take_u 36 (2315255808 + 1 * (rd % 32)) 1 7 rd rn rm ra imm shift cond 2315255808 (⟨#[100, 110, 109]⟩ : ByteArray) 7 0 rn rm ra imm shift cond 2 rfl rn 5 5 16 31 110 (2315255808 + 1 * (rd % 32) + 32 * (rn % 32)) 7 0 0 rm ra imm shift cond (by decide) (by decide) rfl (by decide +kernel) rfl rfl rfl rfl rfl (by decide) (by decide) (by decide +kernel) (by decide +kernel) ((ref_or (2315255808 + 1 * (rd % 32)) rn 5 5 (by decide) (by decide) (by omega) (by omega) (by simp only [Nat.reduceAdd, Nat.reducePow]; omega) (by omega) (by omega) 32 (by decide) 32 (by decide) (by omega))) (by omega) (by omega)]
  by_cases hrrm : 0 ≤ rm ∧ rm ≤ 31
  case neg => (have hr := hrrm; rw [step_take_u_bad 34 (2315255808 + 1 * (rd % 32) + 32 * (rn % 32)) 2 7 rd rn rm ra imm shift cond 2315255808 (⟨#[100, 110, 109]⟩ : ByteArray) 7 0 0 rm ra imm shift cond rm 5 16 16 31 109 (by decide) (by decide) rfl (by decide +kernel) rfl rfl rfl (by decide) (by decide +kernel) hr]; exact ⟨fun h => by omega, fun _ => ⟨0, rfl⟩⟩)
  rw [step_take_u 34 (2315255808 + 1 * (rd % 32) + 32 * (rn % 32)) 2 7 rd rn rm ra imm shift cond 2315255808 (⟨#[100, 110, 109]⟩ : ByteArray) 7 0 0 rm ra imm shift cond 3 rfl rm 5 16 16 31 109 (2315255808 + 1 * (rd % 32) + 32 * (rn % 32) + 65536 * (rm % 32)) 7 0 0 0 ra imm shift cond (by decide) (by decide) rfl (by decide +kernel) rfl rfl rfl rfl rfl (by decide) (by decide) (by decide +kernel) (by decide +kernel) ((ref_or (2315255808 + 1 * (rd % 32) + 32 * (rn % 32)) rm 5 16 (by decide) (by decide) (by omega) (by omega) (by simp only [Nat.reduceAdd, Nat.reducePow]; omega) (by omega) (by omega) 32 (by decide) 65536 (by decide) (by omega))) (by omega) (by omega)]
  rw [show L 34 = L (26 + 8) from rfl, skip_run (2315255808 + 1 * (rd % 32) + 32 * (rn % 32) + 65536 * (rm % 32)) 7 rd rn rm ra imm shift cond 2315255808 (⟨#[100, 110, 109]⟩ : ByteArray) 7 0 0 0 ra imm shift cond 8 26 3 11 rfl (by decide) (by decide) (by decide +kernel)]
  rw [step_end]
  refine ⟨fun h => ?_, fun h => ⟨_, congrArg some (Prod.ext rfl ?_)⟩⟩
  · simp only [Option.some.injEq, Prod.mk.injEq, Bool.and_eq_true, beq_iff_eq, and_true, true_and]
    omega
  · simp only [Bool.and_eq_false_iff, beq_eq_false_iff_ne]
    omega
set_option maxHeartbeats 2000000 in
theorem refl8 (rd rn rm ra imm shift cond : Int) (w1 : -9223372036854775808 ≤ rd ∧ rd < 9223372036854775808) (w2 : -9223372036854775808 ≤ rn ∧ rn < 9223372036854775808) (w3 : -9223372036854775808 ≤ rm ∧ rm < 9223372036854775808) (w4 : -9223372036854775808 ≤ ra ∧ ra < 9223372036854775808) (w5 : -9223372036854775808 ≤ imm ∧ imm < 9223372036854775808) (w6 : -9223372036854775808 ≤ shift ∧ shift < 9223372036854775808) (w7 : -9223372036854775808 ≤ cond ∧ cond < 9223372036854775808) :
    (CR3 rd rn rm ra imm shift cond → L 40 2852126720 0 8 rd rn rm ra imm shift cond 2852126720 (⟨#[100, 110, 109]⟩ : ByteArray) 8 rd rn rm ra imm shift cond = some (VR3 2852126720 rd rn rm ra imm shift cond, true)) ∧ (¬ CR3 rd rn rm ra imm shift cond → ∃ v, L 40 2852126720 0 8 rd rn rm ra imm shift cond 2852126720 (⟨#[100, 110, 109]⟩ : ByteArray) 8 rd rn rm ra imm shift cond = some (v, false)) := by
  unfold CR3 VR3
  by_cases hrrd : 0 ≤ rd ∧ rd ≤ 31
  case neg => (have hr := hrrd; rw [step_take_u_bad 38 (2852126720) 0 8 rd rn rm ra imm shift cond 2852126720 (⟨#[100, 110, 109]⟩ : ByteArray) 8 rd rn rm ra imm shift cond rd 5 0 16 31 100 (by decide) (by decide) rfl (by decide +kernel) rfl rfl rfl (by decide) (by decide +kernel) hr]; exact ⟨fun h => by omega, fun _ => ⟨0, rfl⟩⟩)
  rw [step_take_u 38 (2852126720) 0 8 rd rn rm ra imm shift cond 2852126720 (⟨#[100, 110, 109]⟩ : ByteArray) 8 rd rn rm ra imm shift cond 1 rfl rd 5 0 16 31 100 (2852126720 + 1 * (rd % 32)) 8 0 rn rm ra imm shift cond (by decide) (by decide) rfl (by decide +kernel) rfl rfl rfl rfl rfl (by decide) (by decide) (by decide +kernel) (by decide +kernel) ((ref_or (2852126720) rd 5 0 (by decide) (by decide) (by omega) (by omega) (by simp only [Nat.reduceAdd, Nat.reducePow]; omega) (by omega) (by omega) 32 (by decide) 1 (by decide) (by omega))) (by omega) (by omega)]
  by_cases hrrn : 0 ≤ rn ∧ rn ≤ 31
  case neg => (have hr := hrrn; rw [step_take_u_bad 36 (2852126720 + 1 * (rd % 32)) 1 8 rd rn rm ra imm shift cond 2852126720 (⟨#[100, 110, 109]⟩ : ByteArray) 8 0 rn rm ra imm shift cond rn 5 5 16 31 110 (by decide) (by decide) rfl (by decide +kernel) rfl rfl rfl (by decide) (by decide +kernel) hr]; exact ⟨fun h => by omega, fun _ => ⟨0, rfl⟩⟩)
  rw [step_take_u 36 (2852126720 + 1 * (rd % 32)) 1 8 rd rn rm ra imm shift cond 2852126720 (⟨#[100, 110, 109]⟩ : ByteArray) 8 0 rn rm ra imm shift cond 2 rfl rn 5 5 16 31 110 (2852126720 + 1 * (rd % 32) + 32 * (rn % 32)) 8 0 0 rm ra imm shift cond (by decide) (by decide) rfl (by decide +kernel) rfl rfl rfl rfl rfl (by decide) (by decide) (by decide +kernel) (by decide +kernel) ((ref_or (2852126720 + 1 * (rd % 32)) rn 5 5 (by decide) (by decide) (by omega) (by omega) (by simp only [Nat.reduceAdd, Nat.reducePow]; omega) (by omega) (by omega) 32 (by decide) 32 (by decide) (by omega))) (by omega) (by omega)]
  by_cases hrrm : 0 ≤ rm ∧ rm ≤ 31
  case neg => (have hr := hrrm; rw [step_take_u_bad 34 (2852126720 + 1 * (rd % 32) + 32 * (rn % 32)) 2 8 rd rn rm ra imm shift cond 2852126720 (⟨#[100, 110, 109]⟩ : ByteArray) 8 0 0 rm ra imm shift cond rm 5 16 16 31 109 (by decide) (by decide) rfl (by decide +kernel) rfl rfl rfl (by decide) (by decide +kernel) hr]; exact ⟨fun h => by omega, fun _ => ⟨0, rfl⟩⟩)
  rw [step_take_u 34 (2852126720 + 1 * (rd % 32) + 32 * (rn % 32)) 2 8 rd rn rm ra imm shift cond 2852126720 (⟨#[100, 110, 109]⟩ : ByteArray) 8 0 0 rm ra imm shift cond 3 rfl rm 5 16 16 31 109 (2852126720 + 1 * (rd % 32) + 32 * (rn % 32) + 65536 * (rm % 32)) 8 0 0 0 ra imm shift cond (by decide) (by decide) rfl (by decide +kernel) rfl rfl rfl rfl rfl (by decide) (by decide) (by decide +kernel) (by decide +kernel) ((ref_or (2852126720 + 1 * (rd % 32) + 32 * (rn % 32)) rm 5 16 (by decide) (by decide) (by omega) (by omega) (by simp only [Nat.reduceAdd, Nat.reducePow]; omega) (by omega) (by omega) 32 (by decide) 65536 (by decide) (by omega))) (by omega) (by omega)]
  rw [show L 34 = L (26 + 8) from rfl, skip_run (2852126720 + 1 * (rd % 32) + 32 * (rn % 32) + 65536 * (rm % 32)) 8 rd rn rm ra imm shift cond 2852126720 (⟨#[100, 110, 109]⟩ : ByteArray) 8 0 0 0 ra imm shift cond 8 26 3 11 rfl (by decide) (by decide) (by decide +kernel)]
  rw [step_end]
  refine ⟨fun h => ?_, fun h => ⟨_, congrArg some (Prod.ext rfl ?_)⟩⟩
  · simp only [Option.some.injEq, Prod.mk.injEq, Bool.and_eq_true, beq_iff_eq, and_true, true_and]
    omega
  · simp only [Bool.and_eq_false_iff, beq_eq_false_iff_ne]
    omega
set_option maxHeartbeats 2000000 in
theorem refl9 (rd rn rm ra imm shift cond : Int) (w1 : -9223372036854775808 ≤ rd ∧ rd < 9223372036854775808) (w2 : -9223372036854775808 ≤ rn ∧ rn < 9223372036854775808) (w3 : -9223372036854775808 ≤ rm ∧ rm < 9223372036854775808) (w4 : -9223372036854775808 ≤ ra ∧ ra < 9223372036854775808) (w5 : -9223372036854775808 ≤ imm ∧ imm < 9223372036854775808) (w6 : -9223372036854775808 ≤ shift ∧ shift < 9223372036854775808) (w7 : -9223372036854775808 ≤ cond ∧ cond < 9223372036854775808) :
    (CR3 rd rn rm ra imm shift cond → L 40 3388997632 0 9 rd rn rm ra imm shift cond 3388997632 (⟨#[100, 110, 109]⟩ : ByteArray) 9 rd rn rm ra imm shift cond = some (VR3 3388997632 rd rn rm ra imm shift cond, true)) ∧ (¬ CR3 rd rn rm ra imm shift cond → ∃ v, L 40 3388997632 0 9 rd rn rm ra imm shift cond 3388997632 (⟨#[100, 110, 109]⟩ : ByteArray) 9 rd rn rm ra imm shift cond = some (v, false)) := by
  unfold CR3 VR3
  by_cases hrrd : 0 ≤ rd ∧ rd ≤ 31
  case neg => (have hr := hrrd; rw [step_take_u_bad 38 (3388997632) 0 9 rd rn rm ra imm shift cond 3388997632 (⟨#[100, 110, 109]⟩ : ByteArray) 9 rd rn rm ra imm shift cond rd 5 0 16 31 100 (by decide) (by decide) rfl (by decide +kernel) rfl rfl rfl (by decide) (by decide +kernel) hr]; exact ⟨fun h => by omega, fun _ => ⟨0, rfl⟩⟩)
  rw [step_take_u 38 (3388997632) 0 9 rd rn rm ra imm shift cond 3388997632 (⟨#[100, 110, 109]⟩ : ByteArray) 9 rd rn rm ra imm shift cond 1 rfl rd 5 0 16 31 100 (3388997632 + 1 * (rd % 32)) 9 0 rn rm ra imm shift cond (by decide) (by decide) rfl (by decide +kernel) rfl rfl rfl rfl rfl (by decide) (by decide) (by decide +kernel) (by decide +kernel) ((ref_or (3388997632) rd 5 0 (by decide) (by decide) (by omega) (by omega) (by simp only [Nat.reduceAdd, Nat.reducePow]; omega) (by omega) (by omega) 32 (by decide) 1 (by decide) (by omega))) (by omega) (by omega)]
  by_cases hrrn : 0 ≤ rn ∧ rn ≤ 31
  case neg => (have hr := hrrn; rw [step_take_u_bad 36 (3388997632 + 1 * (rd % 32)) 1 9 rd rn rm ra imm shift cond 3388997632 (⟨#[100, 110, 109]⟩ : ByteArray) 9 0 rn rm ra imm shift cond rn 5 5 16 31 110 (by decide) (by decide) rfl (by decide +kernel) rfl rfl rfl (by decide) (by decide +kernel) hr]; exact ⟨fun h => by omega, fun _ => ⟨0, rfl⟩⟩)
  rw [step_take_u 36 (3388997632 + 1 * (rd % 32)) 1 9 rd rn rm ra imm shift cond 3388997632 (⟨#[100, 110, 109]⟩ : ByteArray) 9 0 rn rm ra imm shift cond 2 rfl rn 5 5 16 31 110 (3388997632 + 1 * (rd % 32) + 32 * (rn % 32)) 9 0 0 rm ra imm shift cond (by decide) (by decide) rfl (by decide +kernel) rfl rfl rfl rfl rfl (by decide) (by decide) (by decide +kernel) (by decide +kernel) ((ref_or (3388997632 + 1 * (rd % 32)) rn 5 5 (by decide) (by decide) (by omega) (by omega) (by simp only [Nat.reduceAdd, Nat.reducePow]; omega) (by omega) (by omega) 32 (by decide) 32 (by decide) (by omega))) (by omega) (by omega)]
  by_cases hrrm : 0 ≤ rm ∧ rm ≤ 31
  case neg => (have hr := hrrm; rw [step_take_u_bad 34 (3388997632 + 1 * (rd % 32) + 32 * (rn % 32)) 2 9 rd rn rm ra imm shift cond 3388997632 (⟨#[100, 110, 109]⟩ : ByteArray) 9 0 0 rm ra imm shift cond rm 5 16 16 31 109 (by decide) (by decide) rfl (by decide +kernel) rfl rfl rfl (by decide) (by decide +kernel) hr]; exact ⟨fun h => by omega, fun _ => ⟨0, rfl⟩⟩)
  rw [step_take_u 34 (3388997632 + 1 * (rd % 32) + 32 * (rn % 32)) 2 9 rd rn rm ra imm shift cond 3388997632 (⟨#[100, 110, 109]⟩ : ByteArray) 9 0 0 rm ra imm shift cond 3 rfl rm 5 16 16 31 109 (3388997632 + 1 * (rd % 32) + 32 * (rn % 32) + 65536 * (rm % 32)) 9 0 0 0 ra imm shift cond (by decide) (by decide) rfl (by decide +kernel) rfl rfl rfl rfl rfl (by decide) (by decide) (by decide +kernel) (by decide +kernel) ((ref_or (3388997632 + 1 * (rd % 32) + 32 * (rn % 32)) rm 5 16 (by decide) (by decide) (by omega) (by omega) (by simp only [Nat.reduceAdd, Nat.reducePow]; omega) (by omega) (by omega) 32 (by decide) 65536 (by decide) (by omega))) (by omega) (by omega)]
  rw [show L 34 = L (26 + 8) from rfl, skip_run (3388997632 + 1 * (rd % 32) + 32 * (rn % 32) + 65536 * (rm % 32)) 9 rd rn rm ra imm shift cond 3388997632 (⟨#[100, 110, 109]⟩ : ByteArray) 9 0 0 0 ra imm shift cond 8 26 3 11 rfl (by decide) (by decide) (by decide +kernel)]
  rw [step_end]
  refine ⟨fun h => ?_, fun h => ⟨_, congrArg some (Prod.ext rfl ?_)⟩⟩
  · simp only [Option.some.injEq, Prod.mk.injEq, Bool.and_eq_true, beq_iff_eq, and_true, true_and]
    omega
  · simp only [Bool.and_eq_false_iff, beq_eq_false_iff_ne]
    omega
set_option maxHeartbeats 2000000 in
theorem refl10 (rd rn rm ra imm shift cond : Int) (w1 : -9223372036854775808 ≤ rd ∧ rd < 9223372036854775808) (w2 : -9223372036854775808 ≤ rn ∧ rn < 9223372036854775808) (w3 : -9223372036854775808 ≤ rm ∧ rm < 9223372036854775808) (w4 : -9223372036854775808 ≤ ra ∧ ra < 9223372036854775808) (w5 : -9223372036854775808 ≤ imm ∧ imm < 9223372036854775808) (w6 : -9223372036854775808 ≤ shift ∧ shift < 9223372036854775808) (w7 : -9223372036854775808 ≤ cond ∧ cond < 9223372036854775808) :
    (CR3 rd rn rm ra imm shift cond → L 40 2854223872 0 10 rd rn rm ra imm shift cond 2854223872 (⟨#[100, 110, 109]⟩ : ByteArray) 10 rd rn rm ra imm shift cond = some (VR3 2854223872 rd rn rm ra imm shift cond, true)) ∧ (¬ CR3 rd rn rm ra imm shift cond → ∃ v, L 40 2854223872 0 10 rd rn rm ra imm shift cond 2854223872 (⟨#[100, 110, 109]⟩ : ByteArray) 10 rd rn rm ra imm shift cond = some (v, false)) := by
  unfold CR3 VR3
  by_cases hrrd : 0 ≤ rd ∧ rd ≤ 31
  case neg => (have hr := hrrd; rw [step_take_u_bad 38 (2854223872) 0 10 rd rn rm ra imm shift cond 2854223872 (⟨#[100, 110, 109]⟩ : ByteArray) 10 rd rn rm ra imm shift cond rd 5 0 16 31 100 (by decide) (by decide) rfl (by decide +kernel) rfl rfl rfl (by decide) (by decide +kernel) hr]; exact ⟨fun h => by omega, fun _ => ⟨0, rfl⟩⟩)
  rw [step_take_u 38 (2854223872) 0 10 rd rn rm ra imm shift cond 2854223872 (⟨#[100, 110, 109]⟩ : ByteArray) 10 rd rn rm ra imm shift cond 1 rfl rd 5 0 16 31 100 (2854223872 + 1 * (rd % 32)) 10 0 rn rm ra imm shift cond (by decide) (by decide) rfl (by decide +kernel) rfl rfl rfl rfl rfl (by decide) (by decide) (by decide +kernel) (by decide +kernel) ((ref_or (2854223872) rd 5 0 (by decide) (by decide) (by omega) (by omega) (by simp only [Nat.reduceAdd, Nat.reducePow]; omega) (by omega) (by omega) 32 (by decide) 1 (by decide) (by omega))) (by omega) (by omega)]
  by_cases hrrn : 0 ≤ rn ∧ rn ≤ 31
  case neg => (have hr := hrrn; rw [step_take_u_bad 36 (2854223872 + 1 * (rd % 32)) 1 10 rd rn rm ra imm shift cond 2854223872 (⟨#[100, 110, 109]⟩ : ByteArray) 10 0 rn rm ra imm shift cond rn 5 5 16 31 110 (by decide) (by decide) rfl (by decide +kernel) rfl rfl rfl (by decide) (by decide +kernel) hr]; exact ⟨fun h => by omega, fun _ => ⟨0, rfl⟩⟩)
  rw [step_take_u 36 (2854223872 + 1 * (rd % 32)) 1 10 rd rn rm ra imm shift cond 2854223872 (⟨#[100, 110, 109]⟩ : ByteArray) 10 0 rn rm ra imm shift cond 2 rfl rn 5 5 16 31 110 (2854223872 + 1 * (rd % 32) + 32 * (rn % 32)) 10 0 0 rm ra imm shift cond (by decide) (by decide) rfl (by decide +kernel) rfl rfl rfl rfl rfl (by decide) (by decide) (by decide +kernel) (by decide +kernel) ((ref_or (2854223872 + 1 * (rd % 32)) rn 5 5 (by decide) (by decide) (by omega) (by omega) (by simp only [Nat.reduceAdd, Nat.reducePow]; omega) (by omega) (by omega) 32 (by decide) 32 (by decide) (by omega))) (by omega) (by omega)]
  by_cases hrrm : 0 ≤ rm ∧ rm ≤ 31
  case neg => (have hr := hrrm; rw [step_take_u_bad 34 (2854223872 + 1 * (rd % 32) + 32 * (rn % 32)) 2 10 rd rn rm ra imm shift cond 2854223872 (⟨#[100, 110, 109]⟩ : ByteArray) 10 0 0 rm ra imm shift cond rm 5 16 16 31 109 (by decide) (by decide) rfl (by decide +kernel) rfl rfl rfl (by decide) (by decide +kernel) hr]; exact ⟨fun h => by omega, fun _ => ⟨0, rfl⟩⟩)
  rw [step_take_u 34 (2854223872 + 1 * (rd % 32) + 32 * (rn % 32)) 2 10 rd rn rm ra imm shift cond 2854223872 (⟨#[100, 110, 109]⟩ : ByteArray) 10 0 0 rm ra imm shift cond 3 rfl rm 5 16 16 31 109 (2854223872 + 1 * (rd % 32) + 32 * (rn % 32) + 65536 * (rm % 32)) 10 0 0 0 ra imm shift cond (by decide) (by decide) rfl (by decide +kernel) rfl rfl rfl rfl rfl (by decide) (by decide) (by decide +kernel) (by decide +kernel) ((ref_or (2854223872 + 1 * (rd % 32) + 32 * (rn % 32)) rm 5 16 (by decide) (by decide) (by omega) (by omega) (by simp only [Nat.reduceAdd, Nat.reducePow]; omega) (by omega) (by omega) 32 (by decide) 65536 (by decide) (by omega))) (by omega) (by omega)]
  rw [show L 34 = L (26 + 8) from rfl, skip_run (2854223872 + 1 * (rd % 32) + 32 * (rn % 32) + 65536 * (rm % 32)) 10 rd rn rm ra imm shift cond 2854223872 (⟨#[100, 110, 109]⟩ : ByteArray) 10 0 0 0 ra imm shift cond 8 26 3 11 rfl (by decide) (by decide) (by decide +kernel)]
  rw [step_end]
  refine ⟨fun h => ?_, fun h => ⟨_, congrArg some (Prod.ext rfl ?_)⟩⟩
  · simp only [Option.some.injEq, Prod.mk.injEq, Bool.and_eq_true, beq_iff_eq, and_true, true_and]
    omega
  · simp only [Bool.and_eq_false_iff, beq_eq_false_iff_ne]
    omega
set_option maxHeartbeats 2000000 in
theorem refl13 (rd rn rm ra imm shift cond : Int) (w1 : -9223372036854775808 ≤ rd ∧ rd < 9223372036854775808) (w2 : -9223372036854775808 ≤ rn ∧ rn < 9223372036854775808) (w3 : -9223372036854775808 ≤ rm ∧ rm < 9223372036854775808) (w4 : -9223372036854775808 ≤ ra ∧ ra < 9223372036854775808) (w5 : -9223372036854775808 ≤ imm ∧ imm < 9223372036854775808) (w6 : -9223372036854775808 ≤ shift ∧ shift < 9223372036854775808) (w7 : -9223372036854775808 ≤ cond ∧ cond < 9223372036854775808) :
    (CR3 rd rn rm ra imm shift cond → L 40 2596277248 0 13 rd rn rm ra imm shift cond 2596277248 (⟨#[100, 110, 109]⟩ : ByteArray) 13 rd rn rm ra imm shift cond = some (VR3 2596277248 rd rn rm ra imm shift cond, true)) ∧ (¬ CR3 rd rn rm ra imm shift cond → ∃ v, L 40 2596277248 0 13 rd rn rm ra imm shift cond 2596277248 (⟨#[100, 110, 109]⟩ : ByteArray) 13 rd rn rm ra imm shift cond = some (v, false)) := by
  unfold CR3 VR3
  by_cases hrrd : 0 ≤ rd ∧ rd ≤ 31
  case neg => (have hr := hrrd; rw [step_take_u_bad 38 (2596277248) 0 13 rd rn rm ra imm shift cond 2596277248 (⟨#[100, 110, 109]⟩ : ByteArray) 13 rd rn rm ra imm shift cond rd 5 0 16 31 100 (by decide) (by decide) rfl (by decide +kernel) rfl rfl rfl (by decide) (by decide +kernel) hr]; exact ⟨fun h => by omega, fun _ => ⟨0, rfl⟩⟩)
  rw [step_take_u 38 (2596277248) 0 13 rd rn rm ra imm shift cond 2596277248 (⟨#[100, 110, 109]⟩ : ByteArray) 13 rd rn rm ra imm shift cond 1 rfl rd 5 0 16 31 100 (2596277248 + 1 * (rd % 32)) 13 0 rn rm ra imm shift cond (by decide) (by decide) rfl (by decide +kernel) rfl rfl rfl rfl rfl (by decide) (by decide) (by decide +kernel) (by decide +kernel) ((ref_or (2596277248) rd 5 0 (by decide) (by decide) (by omega) (by omega) (by simp only [Nat.reduceAdd, Nat.reducePow]; omega) (by omega) (by omega) 32 (by decide) 1 (by decide) (by omega))) (by omega) (by omega)]
  by_cases hrrn : 0 ≤ rn ∧ rn ≤ 31
  case neg => (have hr := hrrn; rw [step_take_u_bad 36 (2596277248 + 1 * (rd % 32)) 1 13 rd rn rm ra imm shift cond 2596277248 (⟨#[100, 110, 109]⟩ : ByteArray) 13 0 rn rm ra imm shift cond rn 5 5 16 31 110 (by decide) (by decide) rfl (by decide +kernel) rfl rfl rfl (by decide) (by decide +kernel) hr]; exact ⟨fun h => by omega, fun _ => ⟨0, rfl⟩⟩)
  rw [step_take_u 36 (2596277248 + 1 * (rd % 32)) 1 13 rd rn rm ra imm shift cond 2596277248 (⟨#[100, 110, 109]⟩ : ByteArray) 13 0 rn rm ra imm shift cond 2 rfl rn 5 5 16 31 110 (2596277248 + 1 * (rd % 32) + 32 * (rn % 32)) 13 0 0 rm ra imm shift cond (by decide) (by decide) rfl (by decide +kernel) rfl rfl rfl rfl rfl (by decide) (by decide) (by decide +kernel) (by decide +kernel) ((ref_or (2596277248 + 1 * (rd % 32)) rn 5 5 (by decide) (by decide) (by omega) (by omega) (by simp only [Nat.reduceAdd, Nat.reducePow]; omega) (by omega) (by omega) 32 (by decide) 32 (by decide) (by omega))) (by omega) (by omega)]
  by_cases hrrm : 0 ≤ rm ∧ rm ≤ 31
  case neg => (have hr := hrrm; rw [step_take_u_bad 34 (2596277248 + 1 * (rd % 32) + 32 * (rn % 32)) 2 13 rd rn rm ra imm shift cond 2596277248 (⟨#[100, 110, 109]⟩ : ByteArray) 13 0 0 rm ra imm shift cond rm 5 16 16 31 109 (by decide) (by decide) rfl (by decide +kernel) rfl rfl rfl (by decide) (by decide +kernel) hr]; exact ⟨fun h => by omega, fun _ => ⟨0, rfl⟩⟩)
  rw [step_take_u 34 (2596277248 + 1 * (rd % 32) + 32 * (rn % 32)) 2 13 rd rn rm ra imm shift cond 2596277248 (⟨#[100, 110, 109]⟩ : ByteArray) 13 0 0 rm ra imm shift cond 3 rfl rm 5 16 16 31 109 (2596277248 + 1 * (rd % 32) + 32 * (rn % 32) + 65536 * (rm % 32)) 13 0 0 0 ra imm shift cond (by decide) (by decide) rfl (by decide +kernel) rfl rfl rfl rfl rfl (by decide) (by decide) (by decide +kernel) (by decide +kernel) ((ref_or (2596277248 + 1 * (rd % 32) + 32 * (rn % 32)) rm 5 16 (by decide) (by decide) (by omega) (by omega) (by simp only [Nat.reduceAdd, Nat.reducePow]; omega) (by omega) (by omega) 32 (by decide) 65536 (by decide) (by omega))) (by omega) (by omega)]
  rw [show L 34 = L (26 + 8) from rfl, skip_run (2596277248 + 1 * (rd % 32) + 32 * (rn % 32) + 65536 * (rm % 32)) 13 rd rn rm ra imm shift cond 2596277248 (⟨#[100, 110, 109]⟩ : ByteArray) 13 0 0 0 ra imm shift cond 8 26 3 11 rfl (by decide) (by decide) (by decide +kernel)]
  rw [step_end]
  refine ⟨fun h => ?_, fun h => ⟨_, congrArg some (Prod.ext rfl ?_)⟩⟩
  · simp only [Option.some.injEq, Prod.mk.injEq, Bool.and_eq_true, beq_iff_eq, and_true, true_and]
    omega
  · simp only [Bool.and_eq_false_iff, beq_eq_false_iff_ne]
    omega
set_option maxHeartbeats 2000000 in
theorem refl14 (rd rn rm ra imm shift cond : Int) (w1 : -9223372036854775808 ≤ rd ∧ rd < 9223372036854775808) (w2 : -9223372036854775808 ≤ rn ∧ rn < 9223372036854775808) (w3 : -9223372036854775808 ≤ rm ∧ rm < 9223372036854775808) (w4 : -9223372036854775808 ≤ ra ∧ ra < 9223372036854775808) (w5 : -9223372036854775808 ≤ imm ∧ imm < 9223372036854775808) (w6 : -9223372036854775808 ≤ shift ∧ shift < 9223372036854775808) (w7 : -9223372036854775808 ≤ cond ∧ cond < 9223372036854775808) :
    (CR3 rd rn rm ra imm shift cond → L 40 2596282368 0 14 rd rn rm ra imm shift cond 2596282368 (⟨#[100, 110, 109]⟩ : ByteArray) 14 rd rn rm ra imm shift cond = some (VR3 2596282368 rd rn rm ra imm shift cond, true)) ∧ (¬ CR3 rd rn rm ra imm shift cond → ∃ v, L 40 2596282368 0 14 rd rn rm ra imm shift cond 2596282368 (⟨#[100, 110, 109]⟩ : ByteArray) 14 rd rn rm ra imm shift cond = some (v, false)) := by
  unfold CR3 VR3
  by_cases hrrd : 0 ≤ rd ∧ rd ≤ 31
  case neg => (have hr := hrrd; rw [step_take_u_bad 38 (2596282368) 0 14 rd rn rm ra imm shift cond 2596282368 (⟨#[100, 110, 109]⟩ : ByteArray) 14 rd rn rm ra imm shift cond rd 5 0 16 31 100 (by decide) (by decide) rfl (by decide +kernel) rfl rfl rfl (by decide) (by decide +kernel) hr]; exact ⟨fun h => by omega, fun _ => ⟨0, rfl⟩⟩)
  rw [step_take_u 38 (2596282368) 0 14 rd rn rm ra imm shift cond 2596282368 (⟨#[100, 110, 109]⟩ : ByteArray) 14 rd rn rm ra imm shift cond 1 rfl rd 5 0 16 31 100 (2596282368 + 1 * (rd % 32)) 14 0 rn rm ra imm shift cond (by decide) (by decide) rfl (by decide +kernel) rfl rfl rfl rfl rfl (by decide) (by decide) (by decide +kernel) (by decide +kernel) ((ref_or (2596282368) rd 5 0 (by decide) (by decide) (by omega) (by omega) (by simp only [Nat.reduceAdd, Nat.reducePow]; omega) (by omega) (by omega) 32 (by decide) 1 (by decide) (by omega))) (by omega) (by omega)]
  by_cases hrrn : 0 ≤ rn ∧ rn ≤ 31
  case neg => (have hr := hrrn; rw [step_take_u_bad 36 (2596282368 + 1 * (rd % 32)) 1 14 rd rn rm ra imm shift cond 2596282368 (⟨#[100, 110, 109]⟩ : ByteArray) 14 0 rn rm ra imm shift cond rn 5 5 16 31 110 (by decide) (by decide) rfl (by decide +kernel) rfl rfl rfl (by decide) (by decide +kernel) hr]; exact ⟨fun h => by omega, fun _ => ⟨0, rfl⟩⟩)
  rw [step_take_u 36 (2596282368 + 1 * (rd % 32)) 1 14 rd rn rm ra imm shift cond 2596282368 (⟨#[100, 110, 109]⟩ : ByteArray) 14 0 rn rm ra imm shift cond 2 rfl rn 5 5 16 31 110 (2596282368 + 1 * (rd % 32) + 32 * (rn % 32)) 14 0 0 rm ra imm shift cond (by decide) (by decide) rfl (by decide +kernel) rfl rfl rfl rfl rfl (by decide) (by decide) (by decide +kernel) (by decide +kernel) ((ref_or (2596282368 + 1 * (rd % 32)) rn 5 5 (by decide) (by decide) (by omega) (by omega) (by simp only [Nat.reduceAdd, Nat.reducePow]; omega) (by omega) (by omega) 32 (by decide) 32 (by decide) (by omega))) (by omega) (by omega)]
  by_cases hrrm : 0 ≤ rm ∧ rm ≤ 31
  case neg => (have hr := hrrm; rw [step_take_u_bad 34 (2596282368 + 1 * (rd % 32) + 32 * (rn % 32)) 2 14 rd rn rm ra imm shift cond 2596282368 (⟨#[100, 110, 109]⟩ : ByteArray) 14 0 0 rm ra imm shift cond rm 5 16 16 31 109 (by decide) (by decide) rfl (by decide +kernel) rfl rfl rfl (by decide) (by decide +kernel) hr]; exact ⟨fun h => by omega, fun _ => ⟨0, rfl⟩⟩)
  rw [step_take_u 34 (2596282368 + 1 * (rd % 32) + 32 * (rn % 32)) 2 14 rd rn rm ra imm shift cond 2596282368 (⟨#[100, 110, 109]⟩ : ByteArray) 14 0 0 rm ra imm shift cond 3 rfl rm 5 16 16 31 109 (2596282368 + 1 * (rd % 32) + 32 * (rn % 32) + 65536 * (rm % 32)) 14 0 0 0 ra imm shift cond (by decide) (by decide) rfl (by decide +kernel) rfl rfl rfl rfl rfl (by decide) (by decide) (by decide +kernel) (by decide +kernel) ((ref_or (2596282368 + 1 * (rd % 32) + 32 * (rn % 32)) rm 5 16 (by decide) (by decide) (by omega) (by omega) (by simp only [Nat.reduceAdd, Nat.reducePow]; omega) (by omega) (by omega) 32 (by decide) 65536 (by decide) (by omega))) (by omega) (by omega)]
  rw [show L 34 = L (26 + 8) from rfl, skip_run (2596282368 + 1 * (rd % 32) + 32 * (rn % 32) + 65536 * (rm % 32)) 14 rd rn rm ra imm shift cond 2596282368 (⟨#[100, 110, 109]⟩ : ByteArray) 14 0 0 0 ra imm shift cond 8 26 3 11 rfl (by decide) (by decide) (by decide +kernel)]
  rw [step_end]
  refine ⟨fun h => ?_, fun h => ⟨_, congrArg some (Prod.ext rfl ?_)⟩⟩
  · simp only [Option.some.injEq, Prod.mk.injEq, Bool.and_eq_true, beq_iff_eq, and_true, true_and]
    omega
  · simp only [Bool.and_eq_false_iff, beq_eq_false_iff_ne]
    omega
set_option maxHeartbeats 2000000 in
theorem refl15 (rd rn rm ra imm shift cond : Int) (w1 : -9223372036854775808 ≤ rd ∧ rd < 9223372036854775808) (w2 : -9223372036854775808 ≤ rn ∧ rn < 9223372036854775808) (w3 : -9223372036854775808 ≤ rm ∧ rm < 9223372036854775808) (w4 : -9223372036854775808 ≤ ra ∧ ra < 9223372036854775808) (w5 : -9223372036854775808 ≤ imm ∧ imm < 9223372036854775808) (w6 : -9223372036854775808 ≤ shift ∧ shift < 9223372036854775808) (w7 : -9223372036854775808 ≤ cond ∧ cond < 9223372036854775808) :
    (CR3 rd rn rm ra imm shift cond → L 40 2596284416 0 15 rd rn rm ra imm shift cond 2596284416 (⟨#[100, 110, 109]⟩ : ByteArray) 15 rd rn rm ra imm shift cond = some (VR3 2596284416 rd rn rm ra imm shift cond, true)) ∧ (¬ CR3 rd rn rm ra imm shift cond → ∃ v, L 40 2596284416 0 15 rd rn rm ra imm shift cond 2596284416 (⟨#[100, 110, 109]⟩ : ByteArray) 15 rd rn rm ra imm shift cond = some (v, false)) := by
  unfold CR3 VR3
  by_cases hrrd : 0 ≤ rd ∧ rd ≤ 31
  case neg => (have hr := hrrd; rw [step_take_u_bad 38 (2596284416) 0 15 rd rn rm ra imm shift cond 2596284416 (⟨#[100, 110, 109]⟩ : ByteArray) 15 rd rn rm ra imm shift cond rd 5 0 16 31 100 (by decide) (by decide) rfl (by decide +kernel) rfl rfl rfl (by decide) (by decide +kernel) hr]; exact ⟨fun h => by omega, fun _ => ⟨0, rfl⟩⟩)
  rw [step_take_u 38 (2596284416) 0 15 rd rn rm ra imm shift cond 2596284416 (⟨#[100, 110, 109]⟩ : ByteArray) 15 rd rn rm ra imm shift cond 1 rfl rd 5 0 16 31 100 (2596284416 + 1 * (rd % 32)) 15 0 rn rm ra imm shift cond (by decide) (by decide) rfl (by decide +kernel) rfl rfl rfl rfl rfl (by decide) (by decide) (by decide +kernel) (by decide +kernel) ((ref_or (2596284416) rd 5 0 (by decide) (by decide) (by omega) (by omega) (by simp only [Nat.reduceAdd, Nat.reducePow]; omega) (by omega) (by omega) 32 (by decide) 1 (by decide) (by omega))) (by omega) (by omega)]
  by_cases hrrn : 0 ≤ rn ∧ rn ≤ 31
  case neg => (have hr := hrrn; rw [step_take_u_bad 36 (2596284416 + 1 * (rd % 32)) 1 15 rd rn rm ra imm shift cond 2596284416 (⟨#[100, 110, 109]⟩ : ByteArray) 15 0 rn rm ra imm shift cond rn 5 5 16 31 110 (by decide) (by decide) rfl (by decide +kernel) rfl rfl rfl (by decide) (by decide +kernel) hr]; exact ⟨fun h => by omega, fun _ => ⟨0, rfl⟩⟩)
  rw [step_take_u 36 (2596284416 + 1 * (rd % 32)) 1 15 rd rn rm ra imm shift cond 2596284416 (⟨#[100, 110, 109]⟩ : ByteArray) 15 0 rn rm ra imm shift cond 2 rfl rn 5 5 16 31 110 (2596284416 + 1 * (rd % 32) + 32 * (rn % 32)) 15 0 0 rm ra imm shift cond (by decide) (by decide) rfl (by decide +kernel) rfl rfl rfl rfl rfl (by decide) (by decide) (by decide +kernel) (by decide +kernel) ((ref_or (2596284416 + 1 * (rd % 32)) rn 5 5 (by decide) (by decide) (by omega) (by omega) (by simp only [Nat.reduceAdd, Nat.reducePow]; omega) (by omega) (by omega) 32 (by decide) 32 (by decide) (by omega))) (by omega) (by omega)]
  by_cases hrrm : 0 ≤ rm ∧ rm ≤ 31
  case neg => (have hr := hrrm; rw [step_take_u_bad 34 (2596284416 + 1 * (rd % 32) + 32 * (rn % 32)) 2 15 rd rn rm ra imm shift cond 2596284416 (⟨#[100, 110, 109]⟩ : ByteArray) 15 0 0 rm ra imm shift cond rm 5 16 16 31 109 (by decide) (by decide) rfl (by decide +kernel) rfl rfl rfl (by decide) (by decide +kernel) hr]; exact ⟨fun h => by omega, fun _ => ⟨0, rfl⟩⟩)
  rw [step_take_u 34 (2596284416 + 1 * (rd % 32) + 32 * (rn % 32)) 2 15 rd rn rm ra imm shift cond 2596284416 (⟨#[100, 110, 109]⟩ : ByteArray) 15 0 0 rm ra imm shift cond 3 rfl rm 5 16 16 31 109 (2596284416 + 1 * (rd % 32) + 32 * (rn % 32) + 65536 * (rm % 32)) 15 0 0 0 ra imm shift cond (by decide) (by decide) rfl (by decide +kernel) rfl rfl rfl rfl rfl (by decide) (by decide) (by decide +kernel) (by decide +kernel) ((ref_or (2596284416 + 1 * (rd % 32) + 32 * (rn % 32)) rm 5 16 (by decide) (by decide) (by omega) (by omega) (by simp only [Nat.reduceAdd, Nat.reducePow]; omega) (by omega) (by omega) 32 (by decide) 65536 (by decide) (by omega))) (by omega) (by omega)]
  rw [show L 34 = L (26 + 8) from rfl, skip_run (2596284416 + 1 * (rd % 32) + 32 * (rn % 32) + 65536 * (rm % 32)) 15 rd rn rm ra imm shift cond 2596284416 (⟨#[100, 110, 109]⟩ : ByteArray) 15 0 0 0 ra imm shift cond 8 26 3 11 rfl (by decide) (by decide) (by decide +kernel)]
  rw [step_end]
  refine ⟨fun h => ?_, fun h => ⟨_, congrArg some (Prod.ext rfl ?_)⟩⟩
  · simp only [Option.some.injEq, Prod.mk.injEq, Bool.and_eq_true, beq_iff_eq, and_true, true_and]
    omega
  · simp only [Bool.and_eq_false_iff, beq_eq_false_iff_ne]
    omega
-- JOIN
def Rws : List S86 := [⟨0, ⟨#[45]⟩⟩, ⟨2332033024, ⟨#[100, 110, 109]⟩⟩, ⟨3405774848, ⟨#[100, 110, 109]⟩⟩, ⟨3942645760, ⟨#[100, 110, 109]⟩⟩, ⟨2432696320, ⟨#[100, 110, 105]⟩⟩, ⟨3506438144, ⟨#[100, 110, 105]⟩⟩, ⟨4043309056, ⟨#[100, 110, 105]⟩⟩, ⟨2315255808, ⟨#[100, 110, 109]⟩⟩, ⟨2852126720, ⟨#[100, 110, 109]⟩⟩, ⟨3388997632, ⟨#[100, 110, 109]⟩⟩, ⟨2854223872, ⟨#[100, 110, 109]⟩⟩, ⟨2600468480, ⟨#[100, 110, 109, 97]⟩⟩, ⟨2600501248, ⟨#[100, 110, 109, 97]⟩⟩, ⟨2596277248, ⟨#[100, 110, 109]⟩⟩, ⟨2596282368, ⟨#[100, 110, 109]⟩⟩, ⟨2596284416, ⟨#[100, 110, 109]⟩⟩, ⟨3531603968, ⟨#[100, 119, 115]⟩⟩, ⟨4068474880, ⟨#[100, 119, 115]⟩⟩, ⟨2457862144, ⟨#[100, 119, 115]⟩⟩, ⟨4181721088, ⟨#[100, 110, 105]⟩⟩, ⟨4177526784, ⟨#[100, 110, 105]⟩⟩, ⟨2592079872, ⟨#[100, 110, 109, 99]⟩⟩, ⟨2592080896, ⟨#[100, 110, 109, 99]⟩⟩, ⟨335544320, ⟨#[98]⟩⟩, ⟨2483027968, ⟨#[98]⟩⟩, ⟨1409286144, ⟨#[111, 113]⟩⟩, ⟨3019898880, ⟨#[100, 111]⟩⟩, ⟨3036676096, ⟨#[100, 111]⟩⟩, ⟨3596550144, ⟨#[110]⟩⟩, ⟨3556769793, ⟨#[119]⟩⟩, ⟨3558866944, ⟨#[119]⟩⟩, ⟨3573751839, ⟨#[]⟩⟩]
theorem rows_eq : pianolaref12_Rows.f = some Rws := rfl
theorem rows_len : (Rws.length : Int) = 32 := rfl
theorem ref_go (op rd rn rm ra imm shift cond : Int) (h0 : ¬ op < 1) (h1 : op < 32) (r : S86) (hr : rd_T86 Rws op = r) : pianolaref12_Encode.f 41 op rd rn rm ra imm shift cond = L 40 r.f0 0 op rd rn rm ra imm shift cond r.f0 r.f1 op rd rn rm ra imm shift cond := by
  simp only [pianolaref12_Encode.f, rows_eq, Option.bind_some]
  rw [if_neg h0, pianolaref12_Encode.j0, rows_len, if_neg (by simp; omega), if_pos (by omega), if_pos h1, ps_eq, hr]
  rfl
/-- The reference's Encode and the program's: one word, or none. -/
theorem ref_enc (op rd rn rm ra imm shift cond : Int) (w1 : -9223372036854775808 ≤ rd ∧ rd < 9223372036854775808) (w2 : -9223372036854775808 ≤ rn ∧ rn < 9223372036854775808) (w3 : -9223372036854775808 ≤ rm ∧ rm < 9223372036854775808) (w4 : -9223372036854775808 ≤ ra ∧ ra < 9223372036854775808) (w5 : -9223372036854775808 ≤ imm ∧ imm < 9223372036854775808) (w6 : -9223372036854775808 ≤ shift ∧ shift < 9223372036854775808) (w7 : -9223372036854775808 ≤ cond ∧ cond < 9223372036854775808) : ∃ v ok, pianolaref12_Encode.f 41 op rd rn rm ra imm shift cond = some (v, ok) ∧ ((ok = true ∧ encode_Encode.f op rd rn rm ra imm shift cond = some (v, 0)) ∨ (ok = false ∧ encode_Encode.f op rd rn rm ra imm shift cond = some (0, 120))) := by
  by_cases h0 : op < 1
  · refine ⟨0, false, ?_, .inr ⟨rfl, enc_none _ _ _ _ _ _ _ _ (.inl h0)⟩⟩
    simp only [pianolaref12_Encode.f, rows_eq, Option.bind_some]
    rw [if_pos h0, pianolaref12_Encode.j0, if_pos rfl]
  by_cases h1 : 31 < op
  · refine ⟨0, false, ?_, .inr ⟨rfl, enc_none _ _ _ _ _ _ _ _ (.inr h1)⟩⟩
    simp only [pianolaref12_Encode.f, rows_eq, Option.bind_some]
    rw [if_neg h0, pianolaref12_Encode.j0, rows_len, if_pos (decide_eq_true (show op ≥ 32 from by omega))]
  have hc : op = 1 ∨ op = 2 ∨ op = 3 ∨ op = 4 ∨ op = 5 ∨ op = 6 ∨ op = 7 ∨ op = 8 ∨ op = 9 ∨ op = 10 ∨ op = 11 ∨ op = 12 ∨ op = 13 ∨ op = 14 ∨ op = 15 ∨ op = 16 ∨ op = 17 ∨ op = 18 ∨ op = 19 ∨ op = 20 ∨ op = 21 ∨ op = 22 ∨ op = 23 ∨ op = 24 ∨ op = 25 ∨ op = 26 ∨ op = 27 ∨ op = 28 ∨ op = 29 ∨ op = 30 ∨ op = 31 := by omega
  rcases hc with rfl | rfl | rfl | rfl | rfl | rfl | rfl | rfl | rfl | rfl | rfl | rfl | rfl | rfl | rfl | rfl | rfl | rfl | rfl | rfl | rfl | rfl | rfl | rfl | rfl | rfl | rfl | rfl | rfl | rfl | rfl
  · have e : pianolaref12_Encode.f 41 1 rd rn rm ra imm shift cond = L 40 2332033024 0 1 rd rn rm ra imm shift cond 2332033024 (⟨#[100, 110, 109]⟩ : ByteArray) 1 rd rn rm ra imm shift cond := ref_go 1 rd rn rm ra imm shift cond (by decide) (by decide) ⟨2332033024, (⟨#[100, 110, 109]⟩ : ByteArray)⟩ rfl
    obtain ⟨g, n⟩ := refl1 rd rn rm ra imm shift cond w1 w2 w3 w4 w5 w6 w7
    by_cases h : CR3 rd rn rm ra imm shift cond
    · exact ⟨_, true, e.trans (g h), .inl ⟨rfl, by rw [enc1, if_pos h]⟩⟩
    · obtain ⟨v, hv⟩ := n h
      exact ⟨v, false, e.trans hv, .inr ⟨rfl, by rw [enc1, if_neg h]⟩⟩
  · have e : pianolaref12_Encode.f 41 2 rd rn rm ra imm shift cond = L 40 3405774848 0 2 rd rn rm ra imm shift cond 3405774848 (⟨#[100, 110, 109]⟩ : ByteArray) 2 rd rn rm ra imm shift cond := ref_go 2 rd rn rm ra imm shift cond (by decide) (by decide) ⟨3405774848, (⟨#[100, 110, 109]⟩ : ByteArray)⟩ rfl
    obtain ⟨g, n⟩ := refl2 rd rn rm ra imm shift cond w1 w2 w3 w4 w5 w6 w7
    by_cases h : CR3 rd rn rm ra imm shift cond
    · exact ⟨_, true, e.trans (g h), .inl ⟨rfl, by rw [enc2, if_pos h]⟩⟩
    · obtain ⟨v, hv⟩ := n h
      exact ⟨v, false, e.trans hv, .inr ⟨rfl, by rw [enc2, if_neg h]⟩⟩
  · have e : pianolaref12_Encode.f 41 3 rd rn rm ra imm shift cond = L 40 3942645760 0 3 rd rn rm ra imm shift cond 3942645760 (⟨#[100, 110, 109]⟩ : ByteArray) 3 rd rn rm ra imm shift cond := ref_go 3 rd rn rm ra imm shift cond (by decide) (by decide) ⟨3942645760, (⟨#[100, 110, 109]⟩ : ByteArray)⟩ rfl
    obtain ⟨g, n⟩ := refl3 rd rn rm ra imm shift cond w1 w2 w3 w4 w5 w6 w7
    by_cases h : CR3 rd rn rm ra imm shift cond
    · exact ⟨_, true, e.trans (g h), .inl ⟨rfl, by rw [enc3, if_pos h]⟩⟩
    · obtain ⟨v, hv⟩ := n h
      exact ⟨v, false, e.trans hv, .inr ⟨rfl, by rw [enc3, if_neg h]⟩⟩
  · have e : pianolaref12_Encode.f 41 4 rd rn rm ra imm shift cond = L 40 2432696320 0 4 rd rn rm ra imm shift cond 2432696320 (⟨#[100, 110, 105]⟩ : ByteArray) 4 rd rn rm ra imm shift cond := ref_go 4 rd rn rm ra imm shift cond (by decide) (by decide) ⟨2432696320, (⟨#[100, 110, 105]⟩ : ByteArray)⟩ rfl
    obtain ⟨g, n⟩ := refl4 rd rn rm ra imm shift cond w1 w2 w3 w4 w5 w6 w7
    by_cases h : CRI rd rn rm ra imm shift cond
    · exact ⟨_, true, e.trans (g h), .inl ⟨rfl, by rw [enc4, if_pos h]⟩⟩
    · obtain ⟨v, hv⟩ := n h
      exact ⟨v, false, e.trans hv, .inr ⟨rfl, by rw [enc4, if_neg h]⟩⟩
  · have e : pianolaref12_Encode.f 41 5 rd rn rm ra imm shift cond = L 40 3506438144 0 5 rd rn rm ra imm shift cond 3506438144 (⟨#[100, 110, 105]⟩ : ByteArray) 5 rd rn rm ra imm shift cond := ref_go 5 rd rn rm ra imm shift cond (by decide) (by decide) ⟨3506438144, (⟨#[100, 110, 105]⟩ : ByteArray)⟩ rfl
    obtain ⟨g, n⟩ := refl5 rd rn rm ra imm shift cond w1 w2 w3 w4 w5 w6 w7
    by_cases h : CRI rd rn rm ra imm shift cond
    · exact ⟨_, true, e.trans (g h), .inl ⟨rfl, by rw [enc5, if_pos h]⟩⟩
    · obtain ⟨v, hv⟩ := n h
      exact ⟨v, false, e.trans hv, .inr ⟨rfl, by rw [enc5, if_neg h]⟩⟩
  · have e : pianolaref12_Encode.f 41 6 rd rn rm ra imm shift cond = L 40 4043309056 0 6 rd rn rm ra imm shift cond 4043309056 (⟨#[100, 110, 105]⟩ : ByteArray) 6 rd rn rm ra imm shift cond := ref_go 6 rd rn rm ra imm shift cond (by decide) (by decide) ⟨4043309056, (⟨#[100, 110, 105]⟩ : ByteArray)⟩ rfl
    obtain ⟨g, n⟩ := refl6 rd rn rm ra imm shift cond w1 w2 w3 w4 w5 w6 w7
    by_cases h : CRI rd rn rm ra imm shift cond
    · exact ⟨_, true, e.trans (g h), .inl ⟨rfl, by rw [enc6, if_pos h]⟩⟩
    · obtain ⟨v, hv⟩ := n h
      exact ⟨v, false, e.trans hv, .inr ⟨rfl, by rw [enc6, if_neg h]⟩⟩
  · have e : pianolaref12_Encode.f 41 7 rd rn rm ra imm shift cond = L 40 2315255808 0 7 rd rn rm ra imm shift cond 2315255808 (⟨#[100, 110, 109]⟩ : ByteArray) 7 rd rn rm ra imm shift cond := ref_go 7 rd rn rm ra imm shift cond (by decide) (by decide) ⟨2315255808, (⟨#[100, 110, 109]⟩ : ByteArray)⟩ rfl
    obtain ⟨g, n⟩ := refl7 rd rn rm ra imm shift cond w1 w2 w3 w4 w5 w6 w7
    by_cases h : CR3 rd rn rm ra imm shift cond
    · exact ⟨_, true, e.trans (g h), .inl ⟨rfl, by rw [enc7, if_pos h]⟩⟩
    · obtain ⟨v, hv⟩ := n h
      exact ⟨v, false, e.trans hv, .inr ⟨rfl, by rw [enc7, if_neg h]⟩⟩
  · have e : pianolaref12_Encode.f 41 8 rd rn rm ra imm shift cond = L 40 2852126720 0 8 rd rn rm ra imm shift cond 2852126720 (⟨#[100, 110, 109]⟩ : ByteArray) 8 rd rn rm ra imm shift cond := ref_go 8 rd rn rm ra imm shift cond (by decide) (by decide) ⟨2852126720, (⟨#[100, 110, 109]⟩ : ByteArray)⟩ rfl
    obtain ⟨g, n⟩ := refl8 rd rn rm ra imm shift cond w1 w2 w3 w4 w5 w6 w7
    by_cases h : CR3 rd rn rm ra imm shift cond
    · exact ⟨_, true, e.trans (g h), .inl ⟨rfl, by rw [enc8, if_pos h]⟩⟩
    · obtain ⟨v, hv⟩ := n h
      exact ⟨v, false, e.trans hv, .inr ⟨rfl, by rw [enc8, if_neg h]⟩⟩
  · have e : pianolaref12_Encode.f 41 9 rd rn rm ra imm shift cond = L 40 3388997632 0 9 rd rn rm ra imm shift cond 3388997632 (⟨#[100, 110, 109]⟩ : ByteArray) 9 rd rn rm ra imm shift cond := ref_go 9 rd rn rm ra imm shift cond (by decide) (by decide) ⟨3388997632, (⟨#[100, 110, 109]⟩ : ByteArray)⟩ rfl
    obtain ⟨g, n⟩ := refl9 rd rn rm ra imm shift cond w1 w2 w3 w4 w5 w6 w7
    by_cases h : CR3 rd rn rm ra imm shift cond
    · exact ⟨_, true, e.trans (g h), .inl ⟨rfl, by rw [enc9, if_pos h]⟩⟩
    · obtain ⟨v, hv⟩ := n h
      exact ⟨v, false, e.trans hv, .inr ⟨rfl, by rw [enc9, if_neg h]⟩⟩
  · have e : pianolaref12_Encode.f 41 10 rd rn rm ra imm shift cond = L 40 2854223872 0 10 rd rn rm ra imm shift cond 2854223872 (⟨#[100, 110, 109]⟩ : ByteArray) 10 rd rn rm ra imm shift cond := ref_go 10 rd rn rm ra imm shift cond (by decide) (by decide) ⟨2854223872, (⟨#[100, 110, 109]⟩ : ByteArray)⟩ rfl
    obtain ⟨g, n⟩ := refl10 rd rn rm ra imm shift cond w1 w2 w3 w4 w5 w6 w7
    by_cases h : CR3 rd rn rm ra imm shift cond
    · exact ⟨_, true, e.trans (g h), .inl ⟨rfl, by rw [enc10, if_pos h]⟩⟩
    · obtain ⟨v, hv⟩ := n h
      exact ⟨v, false, e.trans hv, .inr ⟨rfl, by rw [enc10, if_neg h]⟩⟩
  · have e : pianolaref12_Encode.f 41 11 rd rn rm ra imm shift cond = L 40 2600468480 0 11 rd rn rm ra imm shift cond 2600468480 (⟨#[100, 110, 109, 97]⟩ : ByteArray) 11 rd rn rm ra imm shift cond := ref_go 11 rd rn rm ra imm shift cond (by decide) (by decide) ⟨2600468480, (⟨#[100, 110, 109, 97]⟩ : ByteArray)⟩ rfl
    obtain ⟨g, n⟩ := refl11 rd rn rm ra imm shift cond w1 w2 w3 w4 w5 w6 w7
    by_cases h : CR4 rd rn rm ra imm shift cond
    · exact ⟨_, true, e.trans (g h), .inl ⟨rfl, by rw [enc11, if_pos h]⟩⟩
    · obtain ⟨v, hv⟩ := n h
      exact ⟨v, false, e.trans hv, .inr ⟨rfl, by rw [enc11, if_neg h]⟩⟩
  · have e : pianolaref12_Encode.f 41 12 rd rn rm ra imm shift cond = L 40 2600501248 0 12 rd rn rm ra imm shift cond 2600501248 (⟨#[100, 110, 109, 97]⟩ : ByteArray) 12 rd rn rm ra imm shift cond := ref_go 12 rd rn rm ra imm shift cond (by decide) (by decide) ⟨2600501248, (⟨#[100, 110, 109, 97]⟩ : ByteArray)⟩ rfl
    obtain ⟨g, n⟩ := refl12 rd rn rm ra imm shift cond w1 w2 w3 w4 w5 w6 w7
    by_cases h : CR4 rd rn rm ra imm shift cond
    · exact ⟨_, true, e.trans (g h), .inl ⟨rfl, by rw [enc12, if_pos h]⟩⟩
    · obtain ⟨v, hv⟩ := n h
      exact ⟨v, false, e.trans hv, .inr ⟨rfl, by rw [enc12, if_neg h]⟩⟩
  · have e : pianolaref12_Encode.f 41 13 rd rn rm ra imm shift cond = L 40 2596277248 0 13 rd rn rm ra imm shift cond 2596277248 (⟨#[100, 110, 109]⟩ : ByteArray) 13 rd rn rm ra imm shift cond := ref_go 13 rd rn rm ra imm shift cond (by decide) (by decide) ⟨2596277248, (⟨#[100, 110, 109]⟩ : ByteArray)⟩ rfl
    obtain ⟨g, n⟩ := refl13 rd rn rm ra imm shift cond w1 w2 w3 w4 w5 w6 w7
    by_cases h : CR3 rd rn rm ra imm shift cond
    · exact ⟨_, true, e.trans (g h), .inl ⟨rfl, by rw [enc13, if_pos h]⟩⟩
    · obtain ⟨v, hv⟩ := n h
      exact ⟨v, false, e.trans hv, .inr ⟨rfl, by rw [enc13, if_neg h]⟩⟩
  · have e : pianolaref12_Encode.f 41 14 rd rn rm ra imm shift cond = L 40 2596282368 0 14 rd rn rm ra imm shift cond 2596282368 (⟨#[100, 110, 109]⟩ : ByteArray) 14 rd rn rm ra imm shift cond := ref_go 14 rd rn rm ra imm shift cond (by decide) (by decide) ⟨2596282368, (⟨#[100, 110, 109]⟩ : ByteArray)⟩ rfl
    obtain ⟨g, n⟩ := refl14 rd rn rm ra imm shift cond w1 w2 w3 w4 w5 w6 w7
    by_cases h : CR3 rd rn rm ra imm shift cond
    · exact ⟨_, true, e.trans (g h), .inl ⟨rfl, by rw [enc14, if_pos h]⟩⟩
    · obtain ⟨v, hv⟩ := n h
      exact ⟨v, false, e.trans hv, .inr ⟨rfl, by rw [enc14, if_neg h]⟩⟩
  · have e : pianolaref12_Encode.f 41 15 rd rn rm ra imm shift cond = L 40 2596284416 0 15 rd rn rm ra imm shift cond 2596284416 (⟨#[100, 110, 109]⟩ : ByteArray) 15 rd rn rm ra imm shift cond := ref_go 15 rd rn rm ra imm shift cond (by decide) (by decide) ⟨2596284416, (⟨#[100, 110, 109]⟩ : ByteArray)⟩ rfl
    obtain ⟨g, n⟩ := refl15 rd rn rm ra imm shift cond w1 w2 w3 w4 w5 w6 w7
    by_cases h : CR3 rd rn rm ra imm shift cond
    · exact ⟨_, true, e.trans (g h), .inl ⟨rfl, by rw [enc15, if_pos h]⟩⟩
    · obtain ⟨v, hv⟩ := n h
      exact ⟨v, false, e.trans hv, .inr ⟨rfl, by rw [enc15, if_neg h]⟩⟩
  · have e : pianolaref12_Encode.f 41 16 rd rn rm ra imm shift cond = L 40 3531603968 0 16 rd rn rm ra imm shift cond 3531603968 (⟨#[100, 119, 115]⟩ : ByteArray) 16 rd rn rm ra imm shift cond := ref_go 16 rd rn rm ra imm shift cond (by decide) (by decide) ⟨3531603968, (⟨#[100, 119, 115]⟩ : ByteArray)⟩ rfl
    obtain ⟨g, n⟩ := refl16 rd rn rm ra imm shift cond w1 w2 w3 w4 w5 w6 w7
    by_cases h : CMV rd rn rm ra imm shift cond
    · exact ⟨_, true, e.trans (g h), .inl ⟨rfl, by rw [enc16, if_pos h]⟩⟩
    · obtain ⟨v, hv⟩ := n h
      exact ⟨v, false, e.trans hv, .inr ⟨rfl, by rw [enc16, if_neg h]⟩⟩
  · have e : pianolaref12_Encode.f 41 17 rd rn rm ra imm shift cond = L 40 4068474880 0 17 rd rn rm ra imm shift cond 4068474880 (⟨#[100, 119, 115]⟩ : ByteArray) 17 rd rn rm ra imm shift cond := ref_go 17 rd rn rm ra imm shift cond (by decide) (by decide) ⟨4068474880, (⟨#[100, 119, 115]⟩ : ByteArray)⟩ rfl
    obtain ⟨g, n⟩ := refl17 rd rn rm ra imm shift cond w1 w2 w3 w4 w5 w6 w7
    by_cases h : CMV rd rn rm ra imm shift cond
    · exact ⟨_, true, e.trans (g h), .inl ⟨rfl, by rw [enc17, if_pos h]⟩⟩
    · obtain ⟨v, hv⟩ := n h
      exact ⟨v, false, e.trans hv, .inr ⟨rfl, by rw [enc17, if_neg h]⟩⟩
  · have e : pianolaref12_Encode.f 41 18 rd rn rm ra imm shift cond = L 40 2457862144 0 18 rd rn rm ra imm shift cond 2457862144 (⟨#[100, 119, 115]⟩ : ByteArray) 18 rd rn rm ra imm shift cond := ref_go 18 rd rn rm ra imm shift cond (by decide) (by decide) ⟨2457862144, (⟨#[100, 119, 115]⟩ : ByteArray)⟩ rfl
    obtain ⟨g, n⟩ := refl18 rd rn rm ra imm shift cond w1 w2 w3 w4 w5 w6 w7
    by_cases h : CMV rd rn rm ra imm shift cond
    · exact ⟨_, true, e.trans (g h), .inl ⟨rfl, by rw [enc18, if_pos h]⟩⟩
    · obtain ⟨v, hv⟩ := n h
      exact ⟨v, false, e.trans hv, .inr ⟨rfl, by rw [enc18, if_neg h]⟩⟩
  · have e : pianolaref12_Encode.f 41 19 rd rn rm ra imm shift cond = L 40 4181721088 0 19 rd rn rm ra imm shift cond 4181721088 (⟨#[100, 110, 105]⟩ : ByteArray) 19 rd rn rm ra imm shift cond := ref_go 19 rd rn rm ra imm shift cond (by decide) (by decide) ⟨4181721088, (⟨#[100, 110, 105]⟩ : ByteArray)⟩ rfl
    obtain ⟨g, n⟩ := refl19 rd rn rm ra imm shift cond w1 w2 w3 w4 w5 w6 w7
    by_cases h : CRI rd rn rm ra imm shift cond
    · exact ⟨_, true, e.trans (g h), .inl ⟨rfl, by rw [enc19, if_pos h]⟩⟩
    · obtain ⟨v, hv⟩ := n h
      exact ⟨v, false, e.trans hv, .inr ⟨rfl, by rw [enc19, if_neg h]⟩⟩
  · have e : pianolaref12_Encode.f 41 20 rd rn rm ra imm shift cond = L 40 4177526784 0 20 rd rn rm ra imm shift cond 4177526784 (⟨#[100, 110, 105]⟩ : ByteArray) 20 rd rn rm ra imm shift cond := ref_go 20 rd rn rm ra imm shift cond (by decide) (by decide) ⟨4177526784, (⟨#[100, 110, 105]⟩ : ByteArray)⟩ rfl
    obtain ⟨g, n⟩ := refl20 rd rn rm ra imm shift cond w1 w2 w3 w4 w5 w6 w7
    by_cases h : CRI rd rn rm ra imm shift cond
    · exact ⟨_, true, e.trans (g h), .inl ⟨rfl, by rw [enc20, if_pos h]⟩⟩
    · obtain ⟨v, hv⟩ := n h
      exact ⟨v, false, e.trans hv, .inr ⟨rfl, by rw [enc20, if_neg h]⟩⟩
  · have e : pianolaref12_Encode.f 41 21 rd rn rm ra imm shift cond = L 40 2592079872 0 21 rd rn rm ra imm shift cond 2592079872 (⟨#[100, 110, 109, 99]⟩ : ByteArray) 21 rd rn rm ra imm shift cond := ref_go 21 rd rn rm ra imm shift cond (by decide) (by decide) ⟨2592079872, (⟨#[100, 110, 109, 99]⟩ : ByteArray)⟩ rfl
    obtain ⟨g, n⟩ := refl21 rd rn rm ra imm shift cond w1 w2 w3 w4 w5 w6 w7
    by_cases h : CCS rd rn rm ra imm shift cond
    · exact ⟨_, true, e.trans (g h), .inl ⟨rfl, by rw [enc21, if_pos h]⟩⟩
    · obtain ⟨v, hv⟩ := n h
      exact ⟨v, false, e.trans hv, .inr ⟨rfl, by rw [enc21, if_neg h]⟩⟩
  · have e : pianolaref12_Encode.f 41 22 rd rn rm ra imm shift cond = L 40 2592080896 0 22 rd rn rm ra imm shift cond 2592080896 (⟨#[100, 110, 109, 99]⟩ : ByteArray) 22 rd rn rm ra imm shift cond := ref_go 22 rd rn rm ra imm shift cond (by decide) (by decide) ⟨2592080896, (⟨#[100, 110, 109, 99]⟩ : ByteArray)⟩ rfl
    obtain ⟨g, n⟩ := refl22 rd rn rm ra imm shift cond w1 w2 w3 w4 w5 w6 w7
    by_cases h : CCS rd rn rm ra imm shift cond
    · exact ⟨_, true, e.trans (g h), .inl ⟨rfl, by rw [enc22, if_pos h]⟩⟩
    · obtain ⟨v, hv⟩ := n h
      exact ⟨v, false, e.trans hv, .inr ⟨rfl, by rw [enc22, if_neg h]⟩⟩
  · have e : pianolaref12_Encode.f 41 23 rd rn rm ra imm shift cond = L 40 335544320 0 23 rd rn rm ra imm shift cond 335544320 (⟨#[98]⟩ : ByteArray) 23 rd rn rm ra imm shift cond := ref_go 23 rd rn rm ra imm shift cond (by decide) (by decide) ⟨335544320, (⟨#[98]⟩ : ByteArray)⟩ rfl
    obtain ⟨g, n⟩ := refl23 rd rn rm ra imm shift cond w1 w2 w3 w4 w5 w6 w7
    by_cases h : CBR rd rn rm ra imm shift cond
    · exact ⟨_, true, e.trans (g h), .inl ⟨rfl, by rw [enc23, if_pos h]⟩⟩
    · obtain ⟨v, hv⟩ := n h
      exact ⟨v, false, e.trans hv, .inr ⟨rfl, by rw [enc23, if_neg h]⟩⟩
  · have e : pianolaref12_Encode.f 41 24 rd rn rm ra imm shift cond = L 40 2483027968 0 24 rd rn rm ra imm shift cond 2483027968 (⟨#[98]⟩ : ByteArray) 24 rd rn rm ra imm shift cond := ref_go 24 rd rn rm ra imm shift cond (by decide) (by decide) ⟨2483027968, (⟨#[98]⟩ : ByteArray)⟩ rfl
    obtain ⟨g, n⟩ := refl24 rd rn rm ra imm shift cond w1 w2 w3 w4 w5 w6 w7
    by_cases h : CBR rd rn rm ra imm shift cond
    · exact ⟨_, true, e.trans (g h), .inl ⟨rfl, by rw [enc24, if_pos h]⟩⟩
    · obtain ⟨v, hv⟩ := n h
      exact ⟨v, false, e.trans hv, .inr ⟨rfl, by rw [enc24, if_neg h]⟩⟩
  · have e : pianolaref12_Encode.f 41 25 rd rn rm ra imm shift cond = L 40 1409286144 0 25 rd rn rm ra imm shift cond 1409286144 (⟨#[111, 113]⟩ : ByteArray) 25 rd rn rm ra imm shift cond := ref_go 25 rd rn rm ra imm shift cond (by decide) (by decide) ⟨1409286144, (⟨#[111, 113]⟩ : ByteArray)⟩ rfl
    obtain ⟨g, n⟩ := refl25 rd rn rm ra imm shift cond w1 w2 w3 w4 w5 w6 w7
    by_cases h : CWH rd rn rm ra imm shift cond
    · exact ⟨_, true, e.trans (g h), .inl ⟨rfl, by rw [enc25, if_pos h]⟩⟩
    · obtain ⟨v, hv⟩ := n h
      exact ⟨v, false, e.trans hv, .inr ⟨rfl, by rw [enc25, if_neg h]⟩⟩
  · have e : pianolaref12_Encode.f 41 26 rd rn rm ra imm shift cond = L 40 3019898880 0 26 rd rn rm ra imm shift cond 3019898880 (⟨#[100, 111]⟩ : ByteArray) 26 rd rn rm ra imm shift cond := ref_go 26 rd rn rm ra imm shift cond (by decide) (by decide) ⟨3019898880, (⟨#[100, 111]⟩ : ByteArray)⟩ rfl
    obtain ⟨g, n⟩ := refl26 rd rn rm ra imm shift cond w1 w2 w3 w4 w5 w6 w7
    by_cases h : CZR rd rn rm ra imm shift cond
    · exact ⟨_, true, e.trans (g h), .inl ⟨rfl, by rw [enc26, if_pos h]⟩⟩
    · obtain ⟨v, hv⟩ := n h
      exact ⟨v, false, e.trans hv, .inr ⟨rfl, by rw [enc26, if_neg h]⟩⟩
  · have e : pianolaref12_Encode.f 41 27 rd rn rm ra imm shift cond = L 40 3036676096 0 27 rd rn rm ra imm shift cond 3036676096 (⟨#[100, 111]⟩ : ByteArray) 27 rd rn rm ra imm shift cond := ref_go 27 rd rn rm ra imm shift cond (by decide) (by decide) ⟨3036676096, (⟨#[100, 111]⟩ : ByteArray)⟩ rfl
    obtain ⟨g, n⟩ := refl27 rd rn rm ra imm shift cond w1 w2 w3 w4 w5 w6 w7
    by_cases h : CZR rd rn rm ra imm shift cond
    · exact ⟨_, true, e.trans (g h), .inl ⟨rfl, by rw [enc27, if_pos h]⟩⟩
    · obtain ⟨v, hv⟩ := n h
      exact ⟨v, false, e.trans hv, .inr ⟨rfl, by rw [enc27, if_neg h]⟩⟩
  · have e : pianolaref12_Encode.f 41 28 rd rn rm ra imm shift cond = L 40 3596550144 0 28 rd rn rm ra imm shift cond 3596550144 (⟨#[110]⟩ : ByteArray) 28 rd rn rm ra imm shift cond := ref_go 28 rd rn rm ra imm shift cond (by decide) (by decide) ⟨3596550144, (⟨#[110]⟩ : ByteArray)⟩ rfl
    obtain ⟨g, n⟩ := refl28 rd rn rm ra imm shift cond w1 w2 w3 w4 w5 w6 w7
    by_cases h : CRT rd rn rm ra imm shift cond
    · exact ⟨_, true, e.trans (g h), .inl ⟨rfl, by rw [enc28, if_pos h]⟩⟩
    · obtain ⟨v, hv⟩ := n h
      exact ⟨v, false, e.trans hv, .inr ⟨rfl, by rw [enc28, if_neg h]⟩⟩
  · have e : pianolaref12_Encode.f 41 29 rd rn rm ra imm shift cond = L 40 3556769793 0 29 rd rn rm ra imm shift cond 3556769793 (⟨#[119]⟩ : ByteArray) 29 rd rn rm ra imm shift cond := ref_go 29 rd rn rm ra imm shift cond (by decide) (by decide) ⟨3556769793, (⟨#[119]⟩ : ByteArray)⟩ rfl
    obtain ⟨g, n⟩ := refl29 rd rn rm ra imm shift cond w1 w2 w3 w4 w5 w6 w7
    by_cases h : CSV rd rn rm ra imm shift cond
    · exact ⟨_, true, e.trans (g h), .inl ⟨rfl, by rw [enc29, if_pos h]⟩⟩
    · obtain ⟨v, hv⟩ := n h
      exact ⟨v, false, e.trans hv, .inr ⟨rfl, by rw [enc29, if_neg h]⟩⟩
  · have e : pianolaref12_Encode.f 41 30 rd rn rm ra imm shift cond = L 40 3558866944 0 30 rd rn rm ra imm shift cond 3558866944 (⟨#[119]⟩ : ByteArray) 30 rd rn rm ra imm shift cond := ref_go 30 rd rn rm ra imm shift cond (by decide) (by decide) ⟨3558866944, (⟨#[119]⟩ : ByteArray)⟩ rfl
    obtain ⟨g, n⟩ := refl30 rd rn rm ra imm shift cond w1 w2 w3 w4 w5 w6 w7
    by_cases h : CSV rd rn rm ra imm shift cond
    · exact ⟨_, true, e.trans (g h), .inl ⟨rfl, by rw [enc30, if_pos h]⟩⟩
    · obtain ⟨v, hv⟩ := n h
      exact ⟨v, false, e.trans hv, .inr ⟨rfl, by rw [enc30, if_neg h]⟩⟩
  · have e : pianolaref12_Encode.f 41 31 rd rn rm ra imm shift cond = L 40 3573751839 0 31 rd rn rm ra imm shift cond 3573751839 (⟨#[]⟩ : ByteArray) 31 rd rn rm ra imm shift cond := ref_go 31 rd rn rm ra imm shift cond (by decide) (by decide) ⟨3573751839, (⟨#[]⟩ : ByteArray)⟩ rfl
    obtain ⟨g, n⟩ := refl31 rd rn rm ra imm shift cond w1 w2 w3 w4 w5 w6 w7
    by_cases h : CST rd rn rm ra imm shift cond
    · exact ⟨_, true, e.trans (g h), .inl ⟨rfl, by rw [enc31, if_pos h]⟩⟩
    · obtain ⟨v, hv⟩ := n h
      exact ⟨v, false, e.trans hv, .inr ⟨rfl, by rw [enc31, if_neg h]⟩⟩
end Go.Proofs.Ytndedmkjmahohaa.A64
