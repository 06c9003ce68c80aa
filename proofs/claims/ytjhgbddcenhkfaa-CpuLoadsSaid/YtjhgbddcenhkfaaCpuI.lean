/- The words of A64's instructions as sums of their fields: plain arithmetic over what the walk of encode.Encode comes to; no statement of the seat. Encode answers, and its word is of 32 bits: plain arithmetic; no statement of the seat. What words are decoded to: plain arithmetic over what the walks of decode come to; no statement of the seat. Printed in part by a program. A new processor: a walk; no statement of the seat. What was written to memory is read: plain arithmetic; no statement of the seat. -/
import Derived.Test.YtjhgbddcenhkfaaPF52
import Derived.Test.YtjhgbddcenhkfaaCpuG
import Derived.Test.YtjhgbddcenhkfaaPF33
import Derived.Deep.RegionLaw
set_option linter.unusedVariables false
set_option linter.unusedSimpArgs false
namespace Go.Proofs.Ytjhgbddcenhkfaa.A64
open Go.RowKit Go.Proofs.Ytjhgbddcenhkfaa.P Go.Proofs.YtjhgbddcenhkfaaW.PrintWords

theorem or_add (hi lo v s i : Nat) (hlo : lo < 2 ^ i) (hv : v < 2 ^ s) : (2 ^ (i + s) * hi + lo) ||| (2 ^ i * v) = 2 ^ (i + s) * hi + lo + 2 ^ i * v := by
  have hb : 2 ^ i * v + lo < 2 ^ (i + s) := by
    rw [Nat.pow_add]
    have h1 : v + 1 ≤ 2 ^ s := hv
    have h2 := Nat.mul_le_mul_left (2 ^ i) h1
    rw [Nat.mul_add, Nat.mul_one] at h2
    omega
  have hl : lo < 2 ^ (i + s) := by omega
  rw [Nat.two_pow_add_eq_or_of_lt hl hi, Nat.or_assoc, Nat.or_comm lo, ← Nat.two_pow_add_eq_or_of_lt hlo v, ← Nat.two_pow_add_eq_or_of_lt hb hi]
  rw [← Nat.two_pow_add_eq_or_of_lt hl hi]
  omega
theorem or32 (W Y : Int) (s i : Nat) (h0 : 0 ≤ W) (h1 : W < 4294967296) (hl : W % (2 ^ (i + s) : Nat) < (2 ^ i : Nat)) (v : Nat) (hv : v < 2 ^ s) (hY : Y = ((2 ^ i * v : Nat) : Int)) (hY2 : Y < 4294967296) (hS : W + Y < 4294967296) :
    bits .or .u32 W Y = W + Y := by
  obtain ⟨a, rfl⟩ := Int.eq_ofNat_of_zero_le h0
  subst hY
  have ha : a < 2 ^ 32 := by omega
  have hb : 2 ^ i * v < 2 ^ 32 := by omega
  have hw : ∀ n : Int, 0 ≤ n → n < 2 ^ 32 → IntKind.u32.wrap n = n := fun n h0 h1 => by rw [IntKind.wrap_u32]; omega
  rw [(bits_nat .u32 32 (by decide) hw a (2 ^ i * v) ha hb).2]
  have hl' : a % 2 ^ (i + s) < 2 ^ i := by exact_mod_cast hl
  have hd := Nat.div_add_mod a (2 ^ (i + s))
  have key := or_add (a / 2 ^ (i + s)) (a % 2 ^ (i + s)) v s i hl' hv
  rw [hd] at key
  rw [key]
  push_cast
  rfl
theorem and_mask (x m : Int) (s : Nat) (hs : s ≤ 32) (h0 : 0 ≤ x) (h1 : x < 4294967296) (hm : m = 2 ^ s - 1) : bits .and .u32 x m = x % 2 ^ s := by
  rw [hm]
  exact bits_mask .u32 32 (by decide) (fun n h0 h1 => by rw [IntKind.wrap_u32]; omega) s hs x h0 (by omega)
/-- A field that fits is added. -/
theorem enc_or_add (W v m : Int) (s i : Nat) (hm : m = 2 ^ s - 1) (hm2 : m < 4294967296) (hi : i ≤ 31) (hs : s ≤ 31) (h0 : 0 ≤ W) (h1 : W < 4294967296) (hl : W % (2 ^ (i + s) : Nat) < (2 ^ i : Nat)) (hv0 : 0 ≤ v) (hv : v ≤ m) (hS : W + 2 ^ i * v < 4294967296) :
    enc_or W v (m - 0) i = W + 2 ^ i * v := by
  have hw : wrap64 (m - 0) % 4294967296 = m := by unfold wrap64; omega
  have hv2 : v % 4294967296 = v := by omega
  have hx : bits .and .u32 v m = v := by
    rw [and_mask v m s (by omega) hv0 (by omega) hm, Int.emod_eq_of_lt hv0 (by omega)]
  obtain ⟨n, rfl⟩ := Int.eq_ofNat_of_zero_le hv0
  have hn : n < 2 ^ s := by
    have : (n : Int) < 2 ^ s := by omega
    exact_mod_cast this
  have hc : ((2 : Int) ^ i * (n : Int)) = ((2 ^ i * n : Nat) : Int) := by push_cast; rfl
  have hlt : ((n : Int) * 2 ^ min ((i : Int)).toNat 32) % 4294967296 = 2 ^ i * (n : Int) := by
    have hmn : min ((i : Int)).toNat 32 = i := by omega
    rw [hmn, Int.mul_comm, hc]
    rw [hc] at hS
    omega
  unfold enc_or
  rw [hw, hv2, hx, hlt]
  exact or32 W _ s i h0 h1 hl n hn hc (by omega) hS
-- GROUPS
theorem enc_or26_add (W v : Int) (h0 : 0 ≤ W) (h1 : W + 67108863 < 4294967296) (hl : W % 67108864 = 0) : enc_or26 W v = W + v % 67108864 := by
  have h : bits .and .u32 (v % 4294967296) 67108863 = v % 67108864 := by rw [and_mask _ _ 26 (by decide) (by omega) (by omega) (by decide)]; omega
  unfold enc_or26
  rw [h, show v % 67108864 % 4294967296 = v % 67108864 from by omega]
  obtain ⟨n, hn⟩ := Int.eq_ofNat_of_zero_le (show 0 ≤ v % 67108864 from by omega)
  exact or32 W _ 26 0 h0 (by omega) (by simp only [Nat.reduceAdd, Nat.reducePow]; omega) n (by omega) (by rw [hn]; simp) (by omega) (by omega)
theorem enc_or19_add (W v : Int) (h0 : 0 ≤ W) (h1 : W + 32 * 524287 < 4294967296) (hl : W % 16777216 < 32) : enc_or19 W v = W + 32 * (v % 524288) := by
  have h : bits .and .u32 (v % 4294967296) 524287 = v % 524288 := by rw [and_mask _ _ 19 (by decide) (by omega) (by omega) (by decide)]; omega
  unfold enc_or19
  rw [h, show v % 524288 * 32 % 4294967296 = 32 * (v % 524288) from by omega]
  obtain ⟨n, hn⟩ := Int.eq_ofNat_of_zero_le (show 0 ≤ v % 524288 from by omega)
  exact or32 W _ 19 5 h0 (by omega) (by simp only [Nat.reduceAdd, Nat.reducePow]; omega) n (by omega) (by rw [hn]; simp) (by omega) (by omega)
/-- Group RI: ops [4, 5, 6, 19, 20]. -/
def CRI (rd rn rm ra imm shift cond : Int) : Prop := 0 ≤ rd ∧ rd ≤ 31 ∧ 0 ≤ rn ∧ rn ≤ 31 ∧ 0 ≤ imm ∧ imm ≤ 4095 ∧ rm = 0 ∧ ra = 0 ∧ shift = 0 ∧ cond = 0
def VRI (base rd rn rm ra imm shift cond : Int) : Int := base + rd + 32 * rn + 1024 * imm
theorem cleanRI (base op rd rn rm ra imm shift cond : Int) : (let s : Mk := ⟨base, op, rd, rn, rm, ra, imm, shift, cond, true⟩; (s.regs true true false).putImm 4095 10).clean = true ↔ CRI rd rn rm ra imm shift cond := by
  simp only [CRI, Mk.clean, Mk.regs, Mk.putRd, Mk.putRn, Mk.putRm, Mk.putRa, Mk.putImm, Mk.putShift, Mk.putCond, Mk.put26, Mk.put19, Mk.ok, Mk.okS, if_true, if_false, Bool.false_eq_true, Bool.true_and, Bool.and_eq_true, decide_eq_true_eq, decide_true, and_true, true_and]
  all_goals (constructor <;> (intro h; omega))
theorem val4 (op rd rn rm ra imm shift cond : Int) (h : CRI rd rn rm ra imm shift cond) : (let s : Mk := ⟨2432696320, op, rd, rn, rm, ra, imm, shift, cond, true⟩; (s.regs true true false).putImm 4095 10).W = VRI 2432696320 rd rn rm ra imm shift cond := by
  simp only [CRI] at h
  simp only [VRI, Mk.regs, Mk.putRd, Mk.putRn, Mk.putRm, Mk.putRa, Mk.putImm, Mk.putShift, Mk.putCond, Mk.put26, Mk.put19, if_true, if_false, Bool.false_eq_true]
  rw [show enc_or (2432696320) rd (31 - 0) 0 = 2432696320 + rd from (enc_or_add (2432696320) rd 31 5 0 (by decide) (by decide) (by decide) (by decide) (by omega) (by omega) (by simp only [Nat.reduceAdd, Nat.reducePow]; omega) (by omega) (by omega) (by omega)).trans (by omega)]
  rw [show enc_or (2432696320 + rd) rn (31 - 0) 5 = 2432696320 + rd + 32 * rn from (enc_or_add (2432696320 + rd) rn 31 5 5 (by decide) (by decide) (by decide) (by decide) (by omega) (by omega) (by simp only [Nat.reduceAdd, Nat.reducePow]; omega) (by omega) (by omega) (by omega)).trans (by omega)]
  rw [show enc_or (2432696320 + rd + 32 * rn) imm (4095 - 0) 10 = 2432696320 + rd + 32 * rn + 1024 * imm from (enc_or_add (2432696320 + rd + 32 * rn) imm 4095 12 10 (by decide) (by decide) (by decide) (by decide) (by omega) (by omega) (by simp only [Nat.reduceAdd, Nat.reducePow]; omega) (by omega) (by omega) (by omega)).trans (by omega)]
theorem val5 (op rd rn rm ra imm shift cond : Int) (h : CRI rd rn rm ra imm shift cond) : (let s : Mk := ⟨3506438144, op, rd, rn, rm, ra, imm, shift, cond, true⟩; (s.regs true true false).putImm 4095 10).W = VRI 3506438144 rd rn rm ra imm shift cond := by
  simp only [CRI] at h
  simp only [VRI, Mk.regs, Mk.putRd, Mk.putRn, Mk.putRm, Mk.putRa, Mk.putImm, Mk.putShift, Mk.putCond, Mk.put26, Mk.put19, if_true, if_false, Bool.false_eq_true]
  rw [show enc_or (3506438144) rd (31 - 0) 0 = 3506438144 + rd from (enc_or_add (3506438144) rd 31 5 0 (by decide) (by decide) (by decide) (by decide) (by omega) (by omega) (by simp only [Nat.reduceAdd, Nat.reducePow]; omega) (by omega) (by omega) (by omega)).trans (by omega)]
  rw [show enc_or (3506438144 + rd) rn (31 - 0) 5 = 3506438144 + rd + 32 * rn from (enc_or_add (3506438144 + rd) rn 31 5 5 (by decide) (by decide) (by decide) (by decide) (by omega) (by omega) (by simp only [Nat.reduceAdd, Nat.reducePow]; omega) (by omega) (by omega) (by omega)).trans (by omega)]
  rw [show enc_or (3506438144 + rd + 32 * rn) imm (4095 - 0) 10 = 3506438144 + rd + 32 * rn + 1024 * imm from (enc_or_add (3506438144 + rd + 32 * rn) imm 4095 12 10 (by decide) (by decide) (by decide) (by decide) (by omega) (by omega) (by simp only [Nat.reduceAdd, Nat.reducePow]; omega) (by omega) (by omega) (by omega)).trans (by omega)]
theorem val6 (op rd rn rm ra imm shift cond : Int) (h : CRI rd rn rm ra imm shift cond) : (let s : Mk := ⟨4043309056, op, rd, rn, rm, ra, imm, shift, cond, true⟩; (s.regs true true false).putImm 4095 10).W = VRI 4043309056 rd rn rm ra imm shift cond := by
  simp only [CRI] at h
  simp only [VRI, Mk.regs, Mk.putRd, Mk.putRn, Mk.putRm, Mk.putRa, Mk.putImm, Mk.putShift, Mk.putCond, Mk.put26, Mk.put19, if_true, if_false, Bool.false_eq_true]
  rw [show enc_or (4043309056) rd (31 - 0) 0 = 4043309056 + rd from (enc_or_add (4043309056) rd 31 5 0 (by decide) (by decide) (by decide) (by decide) (by omega) (by omega) (by simp only [Nat.reduceAdd, Nat.reducePow]; omega) (by omega) (by omega) (by omega)).trans (by omega)]
  rw [show enc_or (4043309056 + rd) rn (31 - 0) 5 = 4043309056 + rd + 32 * rn from (enc_or_add (4043309056 + rd) rn 31 5 5 (by decide) (by decide) (by decide) (by decide) (by omega) (by omega) (by simp only [Nat.reduceAdd, Nat.reducePow]; omega) (by omega) (by omega) (by omega)).trans (by omega)]
  rw [show enc_or (4043309056 + rd + 32 * rn) imm (4095 - 0) 10 = 4043309056 + rd + 32 * rn + 1024 * imm from (enc_or_add (4043309056 + rd + 32 * rn) imm 4095 12 10 (by decide) (by decide) (by decide) (by decide) (by omega) (by omega) (by simp only [Nat.reduceAdd, Nat.reducePow]; omega) (by omega) (by omega) (by omega)).trans (by omega)]
theorem val19 (op rd rn rm ra imm shift cond : Int) (h : CRI rd rn rm ra imm shift cond) : (let s : Mk := ⟨4181721088, op, rd, rn, rm, ra, imm, shift, cond, true⟩; (s.regs true true false).putImm 4095 10).W = VRI 4181721088 rd rn rm ra imm shift cond := by
  simp only [CRI] at h
  simp only [VRI, Mk.regs, Mk.putRd, Mk.putRn, Mk.putRm, Mk.putRa, Mk.putImm, Mk.putShift, Mk.putCond, Mk.put26, Mk.put19, if_true, if_false, Bool.false_eq_true]
  rw [show enc_or (4181721088) rd (31 - 0) 0 = 4181721088 + rd from (enc_or_add (4181721088) rd 31 5 0 (by decide) (by decide) (by decide) (by decide) (by omega) (by omega) (by simp only [Nat.reduceAdd, Nat.reducePow]; omega) (by omega) (by omega) (by omega)).trans (by omega)]
  rw [show enc_or (4181721088 + rd) rn (31 - 0) 5 = 4181721088 + rd + 32 * rn from (enc_or_add (4181721088 + rd) rn 31 5 5 (by decide) (by decide) (by decide) (by decide) (by omega) (by omega) (by simp only [Nat.reduceAdd, Nat.reducePow]; omega) (by omega) (by omega) (by omega)).trans (by omega)]
  rw [show enc_or (4181721088 + rd + 32 * rn) imm (4095 - 0) 10 = 4181721088 + rd + 32 * rn + 1024 * imm from (enc_or_add (4181721088 + rd + 32 * rn) imm 4095 12 10 (by decide) (by decide) (by decide) (by decide) (by omega) (by omega) (by simp only [Nat.reduceAdd, Nat.reducePow]; omega) (by omega) (by omega) (by omega)).trans (by omega)]
theorem val20 (op rd rn rm ra imm shift cond : Int) (h : CRI rd rn rm ra imm shift cond) : (let s : Mk := ⟨4177526784, op, rd, rn, rm, ra, imm, shift, cond, true⟩; (s.regs true true false).putImm 4095 10).W = VRI 4177526784 rd rn rm ra imm shift cond := by
  simp only [CRI] at h
  simp only [VRI, Mk.regs, Mk.putRd, Mk.putRn, Mk.putRm, Mk.putRa, Mk.putImm, Mk.putShift, Mk.putCond, Mk.put26, Mk.put19, if_true, if_false, Bool.false_eq_true]
  rw [show enc_or (4177526784) rd (31 - 0) 0 = 4177526784 + rd from (enc_or_add (4177526784) rd 31 5 0 (by decide) (by decide) (by decide) (by decide) (by omega) (by omega) (by simp only [Nat.reduceAdd, Nat.reducePow]; omega) (by omega) (by omega) (by omega)).trans (by omega)]
  rw [show enc_or (4177526784 + rd) rn (31 - 0) 5 = 4177526784 + rd + 32 * rn from (enc_or_add (4177526784 + rd) rn 31 5 5 (by decide) (by decide) (by decide) (by decide) (by omega) (by omega) (by simp only [Nat.reduceAdd, Nat.reducePow]; omega) (by omega) (by omega) (by omega)).trans (by omega)]
  rw [show enc_or (4177526784 + rd + 32 * rn) imm (4095 - 0) 10 = 4177526784 + rd + 32 * rn + 1024 * imm from (enc_or_add (4177526784 + rd + 32 * rn) imm 4095 12 10 (by decide) (by decide) (by decide) (by decide) (by omega) (by omega) (by simp only [Nat.reduceAdd, Nat.reducePow]; omega) (by omega) (by omega) (by omega)).trans (by omega)]
/-- Group R4: ops [11, 12]. -/
def CR4 (rd rn rm ra imm shift cond : Int) : Prop := 0 ≤ rd ∧ rd ≤ 31 ∧ 0 ≤ rn ∧ rn ≤ 31 ∧ 0 ≤ rm ∧ rm ≤ 31 ∧ 0 ≤ ra ∧ ra ≤ 31 ∧ imm = 0 ∧ shift = 0 ∧ cond = 0
def VR4 (base rd rn rm ra imm shift cond : Int) : Int := base + rd + 32 * rn + 65536 * rm + 1024 * ra
theorem cleanR4 (base op rd rn rm ra imm shift cond : Int) : (let s : Mk := ⟨base, op, rd, rn, rm, ra, imm, shift, cond, true⟩; (s.regs true true true).putRa 31 10).clean = true ↔ CR4 rd rn rm ra imm shift cond := by
  simp only [CR4, Mk.clean, Mk.regs, Mk.putRd, Mk.putRn, Mk.putRm, Mk.putRa, Mk.putImm, Mk.putShift, Mk.putCond, Mk.put26, Mk.put19, Mk.ok, Mk.okS, if_true, if_false, Bool.false_eq_true, Bool.true_and, Bool.and_eq_true, decide_eq_true_eq, decide_true, and_true, true_and]
  all_goals (constructor <;> (intro h; omega))
theorem val11 (op rd rn rm ra imm shift cond : Int) (h : CR4 rd rn rm ra imm shift cond) : (let s : Mk := ⟨2600468480, op, rd, rn, rm, ra, imm, shift, cond, true⟩; (s.regs true true true).putRa 31 10).W = VR4 2600468480 rd rn rm ra imm shift cond := by
  simp only [CR4] at h
  simp only [VR4, Mk.regs, Mk.putRd, Mk.putRn, Mk.putRm, Mk.putRa, Mk.putImm, Mk.putShift, Mk.putCond, Mk.put26, Mk.put19, if_true, if_false, Bool.false_eq_true]
  rw [show enc_or (2600468480) rd (31 - 0) 0 = 2600468480 + rd from (enc_or_add (2600468480) rd 31 5 0 (by decide) (by decide) (by decide) (by decide) (by omega) (by omega) (by simp only [Nat.reduceAdd, Nat.reducePow]; omega) (by omega) (by omega) (by omega)).trans (by omega)]
  rw [show enc_or (2600468480 + rd) rn (31 - 0) 5 = 2600468480 + rd + 32 * rn from (enc_or_add (2600468480 + rd) rn 31 5 5 (by decide) (by decide) (by decide) (by decide) (by omega) (by omega) (by simp only [Nat.reduceAdd, Nat.reducePow]; omega) (by omega) (by omega) (by omega)).trans (by omega)]
  rw [show enc_or (2600468480 + rd + 32 * rn) rm (31 - 0) 16 = 2600468480 + rd + 32 * rn + 65536 * rm from (enc_or_add (2600468480 + rd + 32 * rn) rm 31 5 16 (by decide) (by decide) (by decide) (by decide) (by omega) (by omega) (by simp only [Nat.reduceAdd, Nat.reducePow]; omega) (by omega) (by omega) (by omega)).trans (by omega)]
  rw [show enc_or (2600468480 + rd + 32 * rn + 65536 * rm) ra (31 - 0) 10 = 2600468480 + rd + 32 * rn + 65536 * rm + 1024 * ra from (enc_or_add (2600468480 + rd + 32 * rn + 65536 * rm) ra 31 5 10 (by decide) (by decide) (by decide) (by decide) (by omega) (by omega) (by simp only [Nat.reduceAdd, Nat.reducePow]; omega) (by omega) (by omega) (by omega)).trans (by omega)]
theorem val12 (op rd rn rm ra imm shift cond : Int) (h : CR4 rd rn rm ra imm shift cond) : (let s : Mk := ⟨2600501248, op, rd, rn, rm, ra, imm, shift, cond, true⟩; (s.regs true true true).putRa 31 10).W = VR4 2600501248 rd rn rm ra imm shift cond := by
  simp only [CR4] at h
  simp only [VR4, Mk.regs, Mk.putRd, Mk.putRn, Mk.putRm, Mk.putRa, Mk.putImm, Mk.putShift, Mk.putCond, Mk.put26, Mk.put19, if_true, if_false, Bool.false_eq_true]
  rw [show enc_or (2600501248) rd (31 - 0) 0 = 2600501248 + rd from (enc_or_add (2600501248) rd 31 5 0 (by decide) (by decide) (by decide) (by decide) (by omega) (by omega) (by simp only [Nat.reduceAdd, Nat.reducePow]; omega) (by omega) (by omega) (by omega)).trans (by omega)]
  rw [show enc_or (2600501248 + rd) rn (31 - 0) 5 = 2600501248 + rd + 32 * rn from (enc_or_add (2600501248 + rd) rn 31 5 5 (by decide) (by decide) (by decide) (by decide) (by omega) (by omega) (by simp only [Nat.reduceAdd, Nat.reducePow]; omega) (by omega) (by omega) (by omega)).trans (by omega)]
  rw [show enc_or (2600501248 + rd + 32 * rn) rm (31 - 0) 16 = 2600501248 + rd + 32 * rn + 65536 * rm from (enc_or_add (2600501248 + rd + 32 * rn) rm 31 5 16 (by decide) (by decide) (by decide) (by decide) (by omega) (by omega) (by simp only [Nat.reduceAdd, Nat.reducePow]; omega) (by omega) (by omega) (by omega)).trans (by omega)]
  rw [show enc_or (2600501248 + rd + 32 * rn + 65536 * rm) ra (31 - 0) 10 = 2600501248 + rd + 32 * rn + 65536 * rm + 1024 * ra from (enc_or_add (2600501248 + rd + 32 * rn + 65536 * rm) ra 31 5 10 (by decide) (by decide) (by decide) (by decide) (by omega) (by omega) (by simp only [Nat.reduceAdd, Nat.reducePow]; omega) (by omega) (by omega) (by omega)).trans (by omega)]
/-- Group MV: ops [16, 17, 18]. -/
def CMV (rd rn rm ra imm shift cond : Int) : Prop := 0 ≤ rd ∧ rd ≤ 31 ∧ 0 ≤ imm ∧ imm ≤ 65535 ∧ 0 ≤ shift ∧ shift ≤ 3 ∧ rn = 0 ∧ rm = 0 ∧ ra = 0 ∧ cond = 0
def VMV (base rd rn rm ra imm shift cond : Int) : Int := base + rd + 32 * imm + 2097152 * shift
theorem cleanMV (base op rd rn rm ra imm shift cond : Int) : (let s : Mk := ⟨base, op, rd, rn, rm, ra, imm, shift, cond, true⟩; ((s.regs true false false).putImm 65535 5).putShift 3 21).clean = true ↔ CMV rd rn rm ra imm shift cond := by
  simp only [CMV, Mk.clean, Mk.regs, Mk.putRd, Mk.putRn, Mk.putRm, Mk.putRa, Mk.putImm, Mk.putShift, Mk.putCond, Mk.put26, Mk.put19, Mk.ok, Mk.okS, if_true, if_false, Bool.false_eq_true, Bool.true_and, Bool.and_eq_true, decide_eq_true_eq, decide_true, and_true, true_and]
  all_goals (constructor <;> (intro h; omega))
theorem val16 (op rd rn rm ra imm shift cond : Int) (h : CMV rd rn rm ra imm shift cond) : (let s : Mk := ⟨3531603968, op, rd, rn, rm, ra, imm, shift, cond, true⟩; ((s.regs true false false).putImm 65535 5).putShift 3 21).W = VMV 3531603968 rd rn rm ra imm shift cond := by
  simp only [CMV] at h
  simp only [VMV, Mk.regs, Mk.putRd, Mk.putRn, Mk.putRm, Mk.putRa, Mk.putImm, Mk.putShift, Mk.putCond, Mk.put26, Mk.put19, if_true, if_false, Bool.false_eq_true]
  rw [show enc_or (3531603968) rd (31 - 0) 0 = 3531603968 + rd from (enc_or_add (3531603968) rd 31 5 0 (by decide) (by decide) (by decide) (by decide) (by omega) (by omega) (by simp only [Nat.reduceAdd, Nat.reducePow]; omega) (by omega) (by omega) (by omega)).trans (by omega)]
  rw [show enc_or (3531603968 + rd) imm (65535 - 0) 5 = 3531603968 + rd + 32 * imm from (enc_or_add (3531603968 + rd) imm 65535 16 5 (by decide) (by decide) (by decide) (by decide) (by omega) (by omega) (by simp only [Nat.reduceAdd, Nat.reducePow]; omega) (by omega) (by omega) (by omega)).trans (by omega)]
  rw [show enc_or (3531603968 + rd + 32 * imm) shift (3 - 0) 21 = 3531603968 + rd + 32 * imm + 2097152 * shift from (enc_or_add (3531603968 + rd + 32 * imm) shift 3 2 21 (by decide) (by decide) (by decide) (by decide) (by omega) (by omega) (by simp only [Nat.reduceAdd, Nat.reducePow]; omega) (by omega) (by omega) (by omega)).trans (by omega)]
theorem val17 (op rd rn rm ra imm shift cond : Int) (h : CMV rd rn rm ra imm shift cond) : (let s : Mk := ⟨4068474880, op, rd, rn, rm, ra, imm, shift, cond, true⟩; ((s.regs true false false).putImm 65535 5).putShift 3 21).W = VMV 4068474880 rd rn rm ra imm shift cond := by
  simp only [CMV] at h
  simp only [VMV, Mk.regs, Mk.putRd, Mk.putRn, Mk.putRm, Mk.putRa, Mk.putImm, Mk.putShift, Mk.putCond, Mk.put26, Mk.put19, if_true, if_false, Bool.false_eq_true]
  rw [show enc_or (4068474880) rd (31 - 0) 0 = 4068474880 + rd from (enc_or_add (4068474880) rd 31 5 0 (by decide) (by decide) (by decide) (by decide) (by omega) (by omega) (by simp only [Nat.reduceAdd, Nat.reducePow]; omega) (by omega) (by omega) (by omega)).trans (by omega)]
  rw [show enc_or (4068474880 + rd) imm (65535 - 0) 5 = 4068474880 + rd + 32 * imm from (enc_or_add (4068474880 + rd) imm 65535 16 5 (by decide) (by decide) (by decide) (by decide) (by omega) (by omega) (by simp only [Nat.reduceAdd, Nat.reducePow]; omega) (by omega) (by omega) (by omega)).trans (by omega)]
  rw [show enc_or (4068474880 + rd + 32 * imm) shift (3 - 0) 21 = 4068474880 + rd + 32 * imm + 2097152 * shift from (enc_or_add (4068474880 + rd + 32 * imm) shift 3 2 21 (by decide) (by decide) (by decide) (by decide) (by omega) (by omega) (by simp only [Nat.reduceAdd, Nat.reducePow]; omega) (by omega) (by omega) (by omega)).trans (by omega)]
theorem val18 (op rd rn rm ra imm shift cond : Int) (h : CMV rd rn rm ra imm shift cond) : (let s : Mk := ⟨2457862144, op, rd, rn, rm, ra, imm, shift, cond, true⟩; ((s.regs true false false).putImm 65535 5).putShift 3 21).W = VMV 2457862144 rd rn rm ra imm shift cond := by
  simp only [CMV] at h
  simp only [VMV, Mk.regs, Mk.putRd, Mk.putRn, Mk.putRm, Mk.putRa, Mk.putImm, Mk.putShift, Mk.putCond, Mk.put26, Mk.put19, if_true, if_false, Bool.false_eq_true]
  rw [show enc_or (2457862144) rd (31 - 0) 0 = 2457862144 + rd from (enc_or_add (2457862144) rd 31 5 0 (by decide) (by decide) (by decide) (by decide) (by omega) (by omega) (by simp only [Nat.reduceAdd, Nat.reducePow]; omega) (by omega) (by omega) (by omega)).trans (by omega)]
  rw [show enc_or (2457862144 + rd) imm (65535 - 0) 5 = 2457862144 + rd + 32 * imm from (enc_or_add (2457862144 + rd) imm 65535 16 5 (by decide) (by decide) (by decide) (by decide) (by omega) (by omega) (by simp only [Nat.reduceAdd, Nat.reducePow]; omega) (by omega) (by omega) (by omega)).trans (by omega)]
  rw [show enc_or (2457862144 + rd + 32 * imm) shift (3 - 0) 21 = 2457862144 + rd + 32 * imm + 2097152 * shift from (enc_or_add (2457862144 + rd + 32 * imm) shift 3 2 21 (by decide) (by decide) (by decide) (by decide) (by omega) (by omega) (by simp only [Nat.reduceAdd, Nat.reducePow]; omega) (by omega) (by omega) (by omega)).trans (by omega)]
/-- Group CS: ops [21, 22]. -/
def CCS (rd rn rm ra imm shift cond : Int) : Prop := 0 ≤ rd ∧ rd ≤ 31 ∧ 0 ≤ rn ∧ rn ≤ 31 ∧ 0 ≤ rm ∧ rm ≤ 31 ∧ 0 ≤ cond ∧ cond ≤ 15 ∧ ra = 0 ∧ imm = 0 ∧ shift = 0
def VCS (base rd rn rm ra imm shift cond : Int) : Int := base + rd + 32 * rn + 65536 * rm + 4096 * cond
theorem cleanCS (base op rd rn rm ra imm shift cond : Int) : (let s : Mk := ⟨base, op, rd, rn, rm, ra, imm, shift, cond, true⟩; (s.regs true true true).putCond 15 12).clean = true ↔ CCS rd rn rm ra imm shift cond := by
  simp only [CCS, Mk.clean, Mk.regs, Mk.putRd, Mk.putRn, Mk.putRm, Mk.putRa, Mk.putImm, Mk.putShift, Mk.putCond, Mk.put26, Mk.put19, Mk.ok, Mk.okS, if_true, if_false, Bool.false_eq_true, Bool.true_and, Bool.and_eq_true, decide_eq_true_eq, decide_true, and_true, true_and]
  all_goals (constructor <;> (intro h; omega))
theorem val21 (op rd rn rm ra imm shift cond : Int) (h : CCS rd rn rm ra imm shift cond) : (let s : Mk := ⟨2592079872, op, rd, rn, rm, ra, imm, shift, cond, true⟩; (s.regs true true true).putCond 15 12).W = VCS 2592079872 rd rn rm ra imm shift cond := by
  simp only [CCS] at h
  simp only [VCS, Mk.regs, Mk.putRd, Mk.putRn, Mk.putRm, Mk.putRa, Mk.putImm, Mk.putShift, Mk.putCond, Mk.put26, Mk.put19, if_true, if_false, Bool.false_eq_true]
  rw [show enc_or (2592079872) rd (31 - 0) 0 = 2592079872 + rd from (enc_or_add (2592079872) rd 31 5 0 (by decide) (by decide) (by decide) (by decide) (by omega) (by omega) (by simp only [Nat.reduceAdd, Nat.reducePow]; omega) (by omega) (by omega) (by omega)).trans (by omega)]
  rw [show enc_or (2592079872 + rd) rn (31 - 0) 5 = 2592079872 + rd + 32 * rn from (enc_or_add (2592079872 + rd) rn 31 5 5 (by decide) (by decide) (by decide) (by decide) (by omega) (by omega) (by simp only [Nat.reduceAdd, Nat.reducePow]; omega) (by omega) (by omega) (by omega)).trans (by omega)]
  rw [show enc_or (2592079872 + rd + 32 * rn) rm (31 - 0) 16 = 2592079872 + rd + 32 * rn + 65536 * rm from (enc_or_add (2592079872 + rd + 32 * rn) rm 31 5 16 (by decide) (by decide) (by decide) (by decide) (by omega) (by omega) (by simp only [Nat.reduceAdd, Nat.reducePow]; omega) (by omega) (by omega) (by omega)).trans (by omega)]
  rw [show enc_or (2592079872 + rd + 32 * rn + 65536 * rm) cond (15 - 0) 12 = 2592079872 + rd + 32 * rn + 65536 * rm + 4096 * cond from (enc_or_add (2592079872 + rd + 32 * rn + 65536 * rm) cond 15 4 12 (by decide) (by decide) (by decide) (by decide) (by omega) (by omega) (by simp only [Nat.reduceAdd, Nat.reducePow]; omega) (by omega) (by omega) (by omega)).trans (by omega)]
theorem val22 (op rd rn rm ra imm shift cond : Int) (h : CCS rd rn rm ra imm shift cond) : (let s : Mk := ⟨2592080896, op, rd, rn, rm, ra, imm, shift, cond, true⟩; (s.regs true true true).putCond 15 12).W = VCS 2592080896 rd rn rm ra imm shift cond := by
  simp only [CCS] at h
  simp only [VCS, Mk.regs, Mk.putRd, Mk.putRn, Mk.putRm, Mk.putRa, Mk.putImm, Mk.putShift, Mk.putCond, Mk.put26, Mk.put19, if_true, if_false, Bool.false_eq_true]
  rw [show enc_or (2592080896) rd (31 - 0) 0 = 2592080896 + rd from (enc_or_add (2592080896) rd 31 5 0 (by decide) (by decide) (by decide) (by decide) (by omega) (by omega) (by simp only [Nat.reduceAdd, Nat.reducePow]; omega) (by omega) (by omega) (by omega)).trans (by omega)]
  rw [show enc_or (2592080896 + rd) rn (31 - 0) 5 = 2592080896 + rd + 32 * rn from (enc_or_add (2592080896 + rd) rn 31 5 5 (by decide) (by decide) (by decide) (by decide) (by omega) (by omega) (by simp only [Nat.reduceAdd, Nat.reducePow]; omega) (by omega) (by omega) (by omega)).trans (by omega)]
  rw [show enc_or (2592080896 + rd + 32 * rn) rm (31 - 0) 16 = 2592080896 + rd + 32 * rn + 65536 * rm from (enc_or_add (2592080896 + rd + 32 * rn) rm 31 5 16 (by decide) (by decide) (by decide) (by decide) (by omega) (by omega) (by simp only [Nat.reduceAdd, Nat.reducePow]; omega) (by omega) (by omega) (by omega)).trans (by omega)]
  rw [show enc_or (2592080896 + rd + 32 * rn + 65536 * rm) cond (15 - 0) 12 = 2592080896 + rd + 32 * rn + 65536 * rm + 4096 * cond from (enc_or_add (2592080896 + rd + 32 * rn + 65536 * rm) cond 15 4 12 (by decide) (by decide) (by decide) (by decide) (by omega) (by omega) (by simp only [Nat.reduceAdd, Nat.reducePow]; omega) (by omega) (by omega) (by omega)).trans (by omega)]
/-- Group BR: ops [23, 24]. -/
def CBR (rd rn rm ra imm shift cond : Int) : Prop := -33554432 ≤ imm ∧ imm < 33554432 ∧ rd = 0 ∧ rn = 0 ∧ rm = 0 ∧ ra = 0 ∧ shift = 0 ∧ cond = 0
def VBR (base rd rn rm ra imm shift cond : Int) : Int := base + (imm % 67108864)
theorem cleanBR (base op rd rn rm ra imm shift cond : Int) : (let s : Mk := ⟨base, op, rd, rn, rm, ra, imm, shift, cond, true⟩; s.put26).clean = true ↔ CBR rd rn rm ra imm shift cond := by
  simp only [CBR, Mk.clean, Mk.regs, Mk.putRd, Mk.putRn, Mk.putRm, Mk.putRa, Mk.putImm, Mk.putShift, Mk.putCond, Mk.put26, Mk.put19, Mk.ok, Mk.okS, if_true, if_false, Bool.false_eq_true, Bool.true_and, Bool.and_eq_true, decide_eq_true_eq, decide_true, and_true, true_and]
  all_goals (constructor <;> (intro h; omega))
theorem val23 (op rd rn rm ra imm shift cond : Int) (h : CBR rd rn rm ra imm shift cond) : (let s : Mk := ⟨335544320, op, rd, rn, rm, ra, imm, shift, cond, true⟩; s.put26).W = VBR 335544320 rd rn rm ra imm shift cond := by
  simp only [CBR] at h
  simp only [VBR, Mk.regs, Mk.putRd, Mk.putRn, Mk.putRm, Mk.putRa, Mk.putImm, Mk.putShift, Mk.putCond, Mk.put26, Mk.put19, if_true, if_false, Bool.false_eq_true]
  exact enc_or26_add (335544320) imm (by omega) (by omega) (by omega)
theorem val24 (op rd rn rm ra imm shift cond : Int) (h : CBR rd rn rm ra imm shift cond) : (let s : Mk := ⟨2483027968, op, rd, rn, rm, ra, imm, shift, cond, true⟩; s.put26).W = VBR 2483027968 rd rn rm ra imm shift cond := by
  simp only [CBR] at h
  simp only [VBR, Mk.regs, Mk.putRd, Mk.putRn, Mk.putRm, Mk.putRa, Mk.putImm, Mk.putShift, Mk.putCond, Mk.put26, Mk.put19, if_true, if_false, Bool.false_eq_true]
  exact enc_or26_add (2483027968) imm (by omega) (by omega) (by omega)
/-- Group WH: ops [25]. -/
def CWH (rd rn rm ra imm shift cond : Int) : Prop := 0 ≤ cond ∧ cond ≤ 15 ∧ -262144 ≤ imm ∧ imm < 262144 ∧ rd = 0 ∧ rn = 0 ∧ rm = 0 ∧ ra = 0 ∧ shift = 0
def VWH (base rd rn rm ra imm shift cond : Int) : Int := base + cond + 32 * (imm % 524288)
theorem cleanWH (base op rd rn rm ra imm shift cond : Int) : (let s : Mk := ⟨base, op, rd, rn, rm, ra, imm, shift, cond, true⟩; (s.putCond 15 0).put19).clean = true ↔ CWH rd rn rm ra imm shift cond := by
  simp only [CWH, Mk.clean, Mk.regs, Mk.putRd, Mk.putRn, Mk.putRm, Mk.putRa, Mk.putImm, Mk.putShift, Mk.putCond, Mk.put26, Mk.put19, Mk.ok, Mk.okS, if_true, if_false, Bool.false_eq_true, Bool.true_and, Bool.and_eq_true, decide_eq_true_eq, decide_true, and_true, true_and]
  all_goals (constructor <;> (intro h; omega))
theorem val25 (op rd rn rm ra imm shift cond : Int) (h : CWH rd rn rm ra imm shift cond) : (let s : Mk := ⟨1409286144, op, rd, rn, rm, ra, imm, shift, cond, true⟩; (s.putCond 15 0).put19).W = VWH 1409286144 rd rn rm ra imm shift cond := by
  simp only [CWH] at h
  simp only [VWH, Mk.regs, Mk.putRd, Mk.putRn, Mk.putRm, Mk.putRa, Mk.putImm, Mk.putShift, Mk.putCond, Mk.put26, Mk.put19, if_true, if_false, Bool.false_eq_true]
  rw [show enc_or (1409286144) cond (15 - 0) 0 = 1409286144 + cond from (enc_or_add (1409286144) cond 15 4 0 (by decide) (by decide) (by decide) (by decide) (by omega) (by omega) (by simp only [Nat.reduceAdd, Nat.reducePow]; omega) (by omega) (by omega) (by omega)).trans (by omega)]
  exact enc_or19_add (1409286144 + cond) imm (by omega) (by omega) (by omega)
/-- Group ZR: ops [26, 27]. -/
def CZR (rd rn rm ra imm shift cond : Int) : Prop := 0 ≤ rd ∧ rd ≤ 31 ∧ -262144 ≤ imm ∧ imm < 262144 ∧ rn = 0 ∧ rm = 0 ∧ ra = 0 ∧ shift = 0 ∧ cond = 0
def VZR (base rd rn rm ra imm shift cond : Int) : Int := base + rd + 32 * (imm % 524288)
theorem cleanZR (base op rd rn rm ra imm shift cond : Int) : (let s : Mk := ⟨base, op, rd, rn, rm, ra, imm, shift, cond, true⟩; (s.regs true false false).put19).clean = true ↔ CZR rd rn rm ra imm shift cond := by
  simp only [CZR, Mk.clean, Mk.regs, Mk.putRd, Mk.putRn, Mk.putRm, Mk.putRa, Mk.putImm, Mk.putShift, Mk.putCond, Mk.put26, Mk.put19, Mk.ok, Mk.okS, if_true, if_false, Bool.false_eq_true, Bool.true_and, Bool.and_eq_true, decide_eq_true_eq, decide_true, and_true, true_and]
  all_goals (constructor <;> (intro h; omega))
theorem val26 (op rd rn rm ra imm shift cond : Int) (h : CZR rd rn rm ra imm shift cond) : (let s : Mk := ⟨3019898880, op, rd, rn, rm, ra, imm, shift, cond, true⟩; (s.regs true false false).put19).W = VZR 3019898880 rd rn rm ra imm shift cond := by
  simp only [CZR] at h
  simp only [VZR, Mk.regs, Mk.putRd, Mk.putRn, Mk.putRm, Mk.putRa, Mk.putImm, Mk.putShift, Mk.putCond, Mk.put26, Mk.put19, if_true, if_false, Bool.false_eq_true]
  rw [show enc_or (3019898880) rd (31 - 0) 0 = 3019898880 + rd from (enc_or_add (3019898880) rd 31 5 0 (by decide) (by decide) (by decide) (by decide) (by omega) (by omega) (by simp only [Nat.reduceAdd, Nat.reducePow]; omega) (by omega) (by omega) (by omega)).trans (by omega)]
  exact enc_or19_add (3019898880 + rd) imm (by omega) (by omega) (by omega)
theorem val27 (op rd rn rm ra imm shift cond : Int) (h : CZR rd rn rm ra imm shift cond) : (let s : Mk := ⟨3036676096, op, rd, rn, rm, ra, imm, shift, cond, true⟩; (s.regs true false false).put19).W = VZR 3036676096 rd rn rm ra imm shift cond := by
  simp only [CZR] at h
  simp only [VZR, Mk.regs, Mk.putRd, Mk.putRn, Mk.putRm, Mk.putRa, Mk.putImm, Mk.putShift, Mk.putCond, Mk.put26, Mk.put19, if_true, if_false, Bool.false_eq_true]
  rw [show enc_or (3036676096) rd (31 - 0) 0 = 3036676096 + rd from (enc_or_add (3036676096) rd 31 5 0 (by decide) (by decide) (by decide) (by decide) (by omega) (by omega) (by simp only [Nat.reduceAdd, Nat.reducePow]; omega) (by omega) (by omega) (by omega)).trans (by omega)]
  exact enc_or19_add (3036676096 + rd) imm (by omega) (by omega) (by omega)
/-- Group RT: ops [28]. -/
def CRT (rd rn rm ra imm shift cond : Int) : Prop := 0 ≤ rn ∧ rn ≤ 31 ∧ rd = 0 ∧ rm = 0 ∧ ra = 0 ∧ imm = 0 ∧ shift = 0 ∧ cond = 0
def VRT (base rd rn rm ra imm shift cond : Int) : Int := base + 32 * rn
theorem cleanRT (base op rd rn rm ra imm shift cond : Int) : (let s : Mk := ⟨base, op, rd, rn, rm, ra, imm, shift, cond, true⟩; s.regs false true false).clean = true ↔ CRT rd rn rm ra imm shift cond := by
  simp only [CRT, Mk.clean, Mk.regs, Mk.putRd, Mk.putRn, Mk.putRm, Mk.putRa, Mk.putImm, Mk.putShift, Mk.putCond, Mk.put26, Mk.put19, Mk.ok, Mk.okS, if_true, if_false, Bool.false_eq_true, Bool.true_and, Bool.and_eq_true, decide_eq_true_eq, decide_true, and_true, true_and]
  all_goals (constructor <;> (intro h; omega))
theorem val28 (op rd rn rm ra imm shift cond : Int) (h : CRT rd rn rm ra imm shift cond) : (let s : Mk := ⟨3596550144, op, rd, rn, rm, ra, imm, shift, cond, true⟩; s.regs false true false).W = VRT 3596550144 rd rn rm ra imm shift cond := by
  simp only [CRT] at h
  simp only [VRT, Mk.regs, Mk.putRd, Mk.putRn, Mk.putRm, Mk.putRa, Mk.putImm, Mk.putShift, Mk.putCond, Mk.put26, Mk.put19, if_true, if_false, Bool.false_eq_true]
  rw [show enc_or (3596550144) rn (31 - 0) 5 = 3596550144 + 32 * rn from (enc_or_add (3596550144) rn 31 5 5 (by decide) (by decide) (by decide) (by decide) (by omega) (by omega) (by simp only [Nat.reduceAdd, Nat.reducePow]; omega) (by omega) (by omega) (by omega)).trans (by omega)]
/-- Group SV: ops [29, 30]. -/
def CSV (rd rn rm ra imm shift cond : Int) : Prop := 0 ≤ imm ∧ imm ≤ 65535 ∧ rd = 0 ∧ rn = 0 ∧ rm = 0 ∧ ra = 0 ∧ shift = 0 ∧ cond = 0
def VSV (base rd rn rm ra imm shift cond : Int) : Int := base + 32 * imm
theorem cleanSV (base op rd rn rm ra imm shift cond : Int) : (let s : Mk := ⟨base, op, rd, rn, rm, ra, imm, shift, cond, true⟩; s.putImm 65535 5).clean = true ↔ CSV rd rn rm ra imm shift cond := by
  simp only [CSV, Mk.clean, Mk.regs, Mk.putRd, Mk.putRn, Mk.putRm, Mk.putRa, Mk.putImm, Mk.putShift, Mk.putCond, Mk.put26, Mk.put19, Mk.ok, Mk.okS, if_true, if_false, Bool.false_eq_true, Bool.true_and, Bool.and_eq_true, decide_eq_true_eq, decide_true, and_true, true_and]
  all_goals (constructor <;> (intro h; omega))
theorem val29 (op rd rn rm ra imm shift cond : Int) (h : CSV rd rn rm ra imm shift cond) : (let s : Mk := ⟨3556769793, op, rd, rn, rm, ra, imm, shift, cond, true⟩; s.putImm 65535 5).W = VSV 3556769793 rd rn rm ra imm shift cond := by
  simp only [CSV] at h
  simp only [VSV, Mk.regs, Mk.putRd, Mk.putRn, Mk.putRm, Mk.putRa, Mk.putImm, Mk.putShift, Mk.putCond, Mk.put26, Mk.put19, if_true, if_false, Bool.false_eq_true]
  rw [show enc_or (3556769793) imm (65535 - 0) 5 = 3556769793 + 32 * imm from (enc_or_add (3556769793) imm 65535 16 5 (by decide) (by decide) (by decide) (by decide) (by omega) (by omega) (by simp only [Nat.reduceAdd, Nat.reducePow]; omega) (by omega) (by omega) (by omega)).trans (by omega)]
theorem val30 (op rd rn rm ra imm shift cond : Int) (h : CSV rd rn rm ra imm shift cond) : (let s : Mk := ⟨3558866944, op, rd, rn, rm, ra, imm, shift, cond, true⟩; s.putImm 65535 5).W = VSV 3558866944 rd rn rm ra imm shift cond := by
  simp only [CSV] at h
  simp only [VSV, Mk.regs, Mk.putRd, Mk.putRn, Mk.putRm, Mk.putRa, Mk.putImm, Mk.putShift, Mk.putCond, Mk.put26, Mk.put19, if_true, if_false, Bool.false_eq_true]
  rw [show enc_or (3558866944) imm (65535 - 0) 5 = 3558866944 + 32 * imm from (enc_or_add (3558866944) imm 65535 16 5 (by decide) (by decide) (by decide) (by decide) (by omega) (by omega) (by simp only [Nat.reduceAdd, Nat.reducePow]; omega) (by omega) (by omega) (by omega)).trans (by omega)]
/-- Group ST: ops [31]. -/
def CST (rd rn rm ra imm shift cond : Int) : Prop := rd = 0 ∧ rn = 0 ∧ rm = 0 ∧ ra = 0 ∧ imm = 0 ∧ shift = 0 ∧ cond = 0
def VST (base rd rn rm ra imm shift cond : Int) : Int := base
theorem cleanST (base op rd rn rm ra imm shift cond : Int) : (let s : Mk := ⟨base, op, rd, rn, rm, ra, imm, shift, cond, true⟩; s).clean = true ↔ CST rd rn rm ra imm shift cond := by
  simp only [CST, Mk.clean, Mk.regs, Mk.putRd, Mk.putRn, Mk.putRm, Mk.putRa, Mk.putImm, Mk.putShift, Mk.putCond, Mk.put26, Mk.put19, Mk.ok, Mk.okS, if_true, if_false, Bool.false_eq_true, Bool.true_and, Bool.and_eq_true, decide_eq_true_eq, decide_true, and_true, true_and]
  all_goals (constructor <;> (intro h; omega))
theorem val31 (op rd rn rm ra imm shift cond : Int) (h : CST rd rn rm ra imm shift cond) : (let s : Mk := ⟨3573751839, op, rd, rn, rm, ra, imm, shift, cond, true⟩; s).W = VST 3573751839 rd rn rm ra imm shift cond := by
  simp only [CST] at h
  simp only [VST, Mk.regs, Mk.putRd, Mk.putRn, Mk.putRm, Mk.putRa, Mk.putImm, Mk.putShift, Mk.putCond, Mk.put26, Mk.put19, if_true, if_false, Bool.false_eq_true]
/-- Group R3: ops [1, 2, 3, 7, 8, 9, 10, 13, 14, 15]. -/
def CR3 (rd rn rm ra imm shift cond : Int) : Prop := 0 ≤ rd ∧ rd ≤ 31 ∧ 0 ≤ rn ∧ rn ≤ 31 ∧ 0 ≤ rm ∧ rm ≤ 31 ∧ ra = 0 ∧ imm = 0 ∧ shift = 0 ∧ cond = 0
def VR3 (base rd rn rm ra imm shift cond : Int) : Int := base + rd + 32 * rn + 65536 * rm
theorem cleanR3 (base op rd rn rm ra imm shift cond : Int) : (let s : Mk := ⟨base, op, rd, rn, rm, ra, imm, shift, cond, true⟩; s.regs true true true).clean = true ↔ CR3 rd rn rm ra imm shift cond := by
  simp only [CR3, Mk.clean, Mk.regs, Mk.putRd, Mk.putRn, Mk.putRm, Mk.putRa, Mk.putImm, Mk.putShift, Mk.putCond, Mk.put26, Mk.put19, Mk.ok, Mk.okS, if_true, if_false, Bool.false_eq_true, Bool.true_and, Bool.and_eq_true, decide_eq_true_eq, decide_true, and_true, true_and]
  all_goals (constructor <;> (intro h; omega))
theorem val1 (op rd rn rm ra imm shift cond : Int) (h : CR3 rd rn rm ra imm shift cond) : (let s : Mk := ⟨2332033024, op, rd, rn, rm, ra, imm, shift, cond, true⟩; s.regs true true true).W = VR3 2332033024 rd rn rm ra imm shift cond := by
  simp only [CR3] at h
  simp only [VR3, Mk.regs, Mk.putRd, Mk.putRn, Mk.putRm, Mk.putRa, Mk.putImm, Mk.putShift, Mk.putCond, Mk.put26, Mk.put19, if_true, if_false, Bool.false_eq_true]
  rw [show enc_or (2332033024) rd (31 - 0) 0 = 2332033024 + rd from (enc_or_add (2332033024) rd 31 5 0 (by decide) (by decide) (by decide) (by decide) (by omega) (by omega) (by simp only [Nat.reduceAdd, Nat.reducePow]; omega) (by omega) (by omega) (by omega)).trans (by omega)]
  rw [show enc_or (2332033024 + rd) rn (31 - 0) 5 = 2332033024 + rd + 32 * rn from (enc_or_add (2332033024 + rd) rn 31 5 5 (by decide) (by decide) (by decide) (by decide) (by omega) (by omega) (by simp only [Nat.reduceAdd, Nat.reducePow]; omega) (by omega) (by omega) (by omega)).trans (by omega)]
  rw [show enc_or (2332033024 + rd + 32 * rn) rm (31 - 0) 16 = 2332033024 + rd + 32 * rn + 65536 * rm from (enc_or_add (2332033024 + rd + 32 * rn) rm 31 5 16 (by decide) (by decide) (by decide) (by decide) (by omega) (by omega) (by simp only [Nat.reduceAdd, Nat.reducePow]; omega) (by omega) (by omega) (by omega)).trans (by omega)]
theorem val2 (op rd rn rm ra imm shift cond : Int) (h : CR3 rd rn rm ra imm shift cond) : (let s : Mk := ⟨3405774848, op, rd, rn, rm, ra, imm, shift, cond, true⟩; s.regs true true true).W = VR3 3405774848 rd rn rm ra imm shift cond := by
  simp only [CR3] at h
  simp only [VR3, Mk.regs, Mk.putRd, Mk.putRn, Mk.putRm, Mk.putRa, Mk.putImm, Mk.putShift, Mk.putCond, Mk.put26, Mk.put19, if_true, if_false, Bool.false_eq_true]
  rw [show enc_or (3405774848) rd (31 - 0) 0 = 3405774848 + rd from (enc_or_add (3405774848) rd 31 5 0 (by decide) (by decide) (by decide) (by decide) (by omega) (by omega) (by simp only [Nat.reduceAdd, Nat.reducePow]; omega) (by omega) (by omega) (by omega)).trans (by omega)]
  rw [show enc_or (3405774848 + rd) rn (31 - 0) 5 = 3405774848 + rd + 32 * rn from (enc_or_add (3405774848 + rd) rn 31 5 5 (by decide) (by decide) (by decide) (by decide) (by omega) (by omega) (by simp only [Nat.reduceAdd, Nat.reducePow]; omega) (by omega) (by omega) (by omega)).trans (by omega)]
  rw [show enc_or (3405774848 + rd + 32 * rn) rm (31 - 0) 16 = 3405774848 + rd + 32 * rn + 65536 * rm from (enc_or_add (3405774848 + rd + 32 * rn) rm 31 5 16 (by decide) (by decide) (by decide) (by decide) (by omega) (by omega) (by simp only [Nat.reduceAdd, Nat.reducePow]; omega) (by omega) (by omega) (by omega)).trans (by omega)]
theorem val3 (op rd rn rm ra imm shift cond : Int) (h : CR3 rd rn rm ra imm shift cond) : (let s : Mk := ⟨3942645760, op, rd, rn, rm, ra, imm, shift, cond, true⟩; s.regs true true true).W = VR3 3942645760 rd rn rm ra imm shift cond := by
  simp only [CR3] at h
  simp only [VR3, Mk.regs, Mk.putRd, Mk.putRn, Mk.putRm, Mk.putRa, Mk.putImm, Mk.putShift, Mk.putCond, Mk.put26, Mk.put19, if_true, if_false, Bool.false_eq_true]
  rw [show enc_or (3942645760) rd (31 - 0) 0 = 3942645760 + rd from (enc_or_add (3942645760) rd 31 5 0 (by decide) (by decide) (by decide) (by decide) (by omega) (by omega) (by simp only [Nat.reduceAdd, Nat.reducePow]; omega) (by omega) (by omega) (by omega)).trans (by omega)]
  rw [show enc_or (3942645760 + rd) rn (31 - 0) 5 = 3942645760 + rd + 32 * rn from (enc_or_add (3942645760 + rd) rn 31 5 5 (by decide) (by decide) (by decide) (by decide) (by omega) (by omega) (by simp only [Nat.reduceAdd, Nat.reducePow]; omega) (by omega) (by omega) (by omega)).trans (by omega)]
  rw [show enc_or (3942645760 + rd + 32 * rn) rm (31 - 0) 16 = 3942645760 + rd + 32 * rn + 65536 * rm from (enc_or_add (3942645760 + rd + 32 * rn) rm 31 5 16 (by decide) (by decide) (by decide) (by decide) (by omega) (by omega) (by simp only [Nat.reduceAdd, Nat.reducePow]; omega) (by omega) (by omega) (by omega)).trans (by omega)]
theorem val7 (op rd rn rm ra imm shift cond : Int) (h : CR3 rd rn rm ra imm shift cond) : (let s : Mk := ⟨2315255808, op, rd, rn, rm, ra, imm, shift, cond, true⟩; s.regs true true true).W = VR3 2315255808 rd rn rm ra imm shift cond := by
  simp only [CR3] at h
  simp only [VR3, Mk.regs, Mk.putRd, Mk.putRn, Mk.putRm, Mk.putRa, Mk.putImm, Mk.putShift, Mk.putCond, Mk.put26, Mk.put19, if_true, if_false, Bool.false_eq_true]
  rw [show enc_or (2315255808) rd (31 - 0) 0 = 2315255808 + rd from (enc_or_add (2315255808) rd 31 5 0 (by decide) (by decide) (by decide) (by decide) (by omega) (by omega) (by simp only [Nat.reduceAdd, Nat.reducePow]; omega) (by omega) (by omega) (by omega)).trans (by omega)]
  rw [show enc_or (2315255808 + rd) rn (31 - 0) 5 = 2315255808 + rd + 32 * rn from (enc_or_add (2315255808 + rd) rn 31 5 5 (by decide) (by decide) (by decide) (by decide) (by omega) (by omega) (by simp only [Nat.reduceAdd, Nat.reducePow]; omega) (by omega) (by omega) (by omega)).trans (by omega)]
  rw [show enc_or (2315255808 + rd + 32 * rn) rm (31 - 0) 16 = 2315255808 + rd + 32 * rn + 65536 * rm from (enc_or_add (2315255808 + rd + 32 * rn) rm 31 5 16 (by decide) (by decide) (by decide) (by decide) (by omega) (by omega) (by simp only [Nat.reduceAdd, Nat.reducePow]; omega) (by omega) (by omega) (by omega)).trans (by omega)]
theorem val8 (op rd rn rm ra imm shift cond : Int) (h : CR3 rd rn rm ra imm shift cond) : (let s : Mk := ⟨2852126720, op, rd, rn, rm, ra, imm, shift, cond, true⟩; s.regs true true true).W = VR3 2852126720 rd rn rm ra imm shift cond := by
  simp only [CR3] at h
  simp only [VR3, Mk.regs, Mk.putRd, Mk.putRn, Mk.putRm, Mk.putRa, Mk.putImm, Mk.putShift, Mk.putCond, Mk.put26, Mk.put19, if_true, if_false, Bool.false_eq_true]
  rw [show enc_or (2852126720) rd (31 - 0) 0 = 2852126720 + rd from (enc_or_add (2852126720) rd 31 5 0 (by decide) (by decide) (by decide) (by decide) (by omega) (by omega) (by simp only [Nat.reduceAdd, Nat.reducePow]; omega) (by omega) (by omega) (by omega)).trans (by omega)]
  rw [show enc_or (2852126720 + rd) rn (31 - 0) 5 = 2852126720 + rd + 32 * rn from (enc_or_add (2852126720 + rd) rn 31 5 5 (by decide) (by decide) (by decide) (by decide) (by omega) (by omega) (by simp only [Nat.reduceAdd, Nat.reducePow]; omega) (by omega) (by omega) (by omega)).trans (by omega)]
  rw [show enc_or (2852126720 + rd + 32 * rn) rm (31 - 0) 16 = 2852126720 + rd + 32 * rn + 65536 * rm from (enc_or_add (2852126720 + rd + 32 * rn) rm 31 5 16 (by decide) (by decide) (by decide) (by decide) (by omega) (by omega) (by simp only [Nat.reduceAdd, Nat.reducePow]; omega) (by omega) (by omega) (by omega)).trans (by omega)]
theorem val9 (op rd rn rm ra imm shift cond : Int) (h : CR3 rd rn rm ra imm shift cond) : (let s : Mk := ⟨3388997632, op, rd, rn, rm, ra, imm, shift, cond, true⟩; s.regs true true true).W = VR3 3388997632 rd rn rm ra imm shift cond := by
  simp only [CR3] at h
  simp only [VR3, Mk.regs, Mk.putRd, Mk.putRn, Mk.putRm, Mk.putRa, Mk.putImm, Mk.putShift, Mk.putCond, Mk.put26, Mk.put19, if_true, if_false, Bool.false_eq_true]
  rw [show enc_or (3388997632) rd (31 - 0) 0 = 3388997632 + rd from (enc_or_add (3388997632) rd 31 5 0 (by decide) (by decide) (by decide) (by decide) (by omega) (by omega) (by simp only [Nat.reduceAdd, Nat.reducePow]; omega) (by omega) (by omega) (by omega)).trans (by omega)]
  rw [show enc_or (3388997632 + rd) rn (31 - 0) 5 = 3388997632 + rd + 32 * rn from (enc_or_add (3388997632 + rd) rn 31 5 5 (by decide) (by decide) (by decide) (by decide) (by omega) (by omega) (by simp only [Nat.reduceAdd, Nat.reducePow]; omega) (by omega) (by omega) (by omega)).trans (by omega)]
  rw [show enc_or (3388997632 + rd + 32 * rn) rm (31 - 0) 16 = 3388997632 + rd + 32 * rn + 65536 * rm from (enc_or_add (3388997632 + rd + 32 * rn) rm 31 5 16 (by decide) (by decide) (by decide) (by decide) (by omega) (by omega) (by simp only [Nat.reduceAdd, Nat.reducePow]; omega) (by omega) (by omega) (by omega)).trans (by omega)]
theorem val10 (op rd rn rm ra imm shift cond : Int) (h : CR3 rd rn rm ra imm shift cond) : (let s : Mk := ⟨2854223872, op, rd, rn, rm, ra, imm, shift, cond, true⟩; s.regs true true true).W = VR3 2854223872 rd rn rm ra imm shift cond := by
  simp only [CR3] at h
  simp only [VR3, Mk.regs, Mk.putRd, Mk.putRn, Mk.putRm, Mk.putRa, Mk.putImm, Mk.putShift, Mk.putCond, Mk.put26, Mk.put19, if_true, if_false, Bool.false_eq_true]
  rw [show enc_or (2854223872) rd (31 - 0) 0 = 2854223872 + rd from (enc_or_add (2854223872) rd 31 5 0 (by decide) (by decide) (by decide) (by decide) (by omega) (by omega) (by simp only [Nat.reduceAdd, Nat.reducePow]; omega) (by omega) (by omega) (by omega)).trans (by omega)]
  rw [show enc_or (2854223872 + rd) rn (31 - 0) 5 = 2854223872 + rd + 32 * rn from (enc_or_add (2854223872 + rd) rn 31 5 5 (by decide) (by decide) (by decide) (by decide) (by omega) (by omega) (by simp only [Nat.reduceAdd, Nat.reducePow]; omega) (by omega) (by omega) (by omega)).trans (by omega)]
  rw [show enc_or (2854223872 + rd + 32 * rn) rm (31 - 0) 16 = 2854223872 + rd + 32 * rn + 65536 * rm from (enc_or_add (2854223872 + rd + 32 * rn) rm 31 5 16 (by decide) (by decide) (by decide) (by decide) (by omega) (by omega) (by simp only [Nat.reduceAdd, Nat.reducePow]; omega) (by omega) (by omega) (by omega)).trans (by omega)]
theorem val13 (op rd rn rm ra imm shift cond : Int) (h : CR3 rd rn rm ra imm shift cond) : (let s : Mk := ⟨2596277248, op, rd, rn, rm, ra, imm, shift, cond, true⟩; s.regs true true true).W = VR3 2596277248 rd rn rm ra imm shift cond := by
  simp only [CR3] at h
  simp only [VR3, Mk.regs, Mk.putRd, Mk.putRn, Mk.putRm, Mk.putRa, Mk.putImm, Mk.putShift, Mk.putCond, Mk.put26, Mk.put19, if_true, if_false, Bool.false_eq_true]
  rw [show enc_or (2596277248) rd (31 - 0) 0 = 2596277248 + rd from (enc_or_add (2596277248) rd 31 5 0 (by decide) (by decide) (by decide) (by decide) (by omega) (by omega) (by simp only [Nat.reduceAdd, Nat.reducePow]; omega) (by omega) (by omega) (by omega)).trans (by omega)]
  rw [show enc_or (2596277248 + rd) rn (31 - 0) 5 = 2596277248 + rd + 32 * rn from (enc_or_add (2596277248 + rd) rn 31 5 5 (by decide) (by decide) (by decide) (by decide) (by omega) (by omega) (by simp only [Nat.reduceAdd, Nat.reducePow]; omega) (by omega) (by omega) (by omega)).trans (by omega)]
  rw [show enc_or (2596277248 + rd + 32 * rn) rm (31 - 0) 16 = 2596277248 + rd + 32 * rn + 65536 * rm from (enc_or_add (2596277248 + rd + 32 * rn) rm 31 5 16 (by decide) (by decide) (by decide) (by decide) (by omega) (by omega) (by simp only [Nat.reduceAdd, Nat.reducePow]; omega) (by omega) (by omega) (by omega)).trans (by omega)]
theorem val14 (op rd rn rm ra imm shift cond : Int) (h : CR3 rd rn rm ra imm shift cond) : (let s : Mk := ⟨2596282368, op, rd, rn, rm, ra, imm, shift, cond, true⟩; s.regs true true true).W = VR3 2596282368 rd rn rm ra imm shift cond := by
  simp only [CR3] at h
  simp only [VR3, Mk.regs, Mk.putRd, Mk.putRn, Mk.putRm, Mk.putRa, Mk.putImm, Mk.putShift, Mk.putCond, Mk.put26, Mk.put19, if_true, if_false, Bool.false_eq_true]
  rw [show enc_or (2596282368) rd (31 - 0) 0 = 2596282368 + rd from (enc_or_add (2596282368) rd 31 5 0 (by decide) (by decide) (by decide) (by decide) (by omega) (by omega) (by simp only [Nat.reduceAdd, Nat.reducePow]; omega) (by omega) (by omega) (by omega)).trans (by omega)]
  rw [show enc_or (2596282368 + rd) rn (31 - 0) 5 = 2596282368 + rd + 32 * rn from (enc_or_add (2596282368 + rd) rn 31 5 5 (by decide) (by decide) (by decide) (by decide) (by omega) (by omega) (by simp only [Nat.reduceAdd, Nat.reducePow]; omega) (by omega) (by omega) (by omega)).trans (by omega)]
  rw [show enc_or (2596282368 + rd + 32 * rn) rm (31 - 0) 16 = 2596282368 + rd + 32 * rn + 65536 * rm from (enc_or_add (2596282368 + rd + 32 * rn) rm 31 5 16 (by decide) (by decide) (by decide) (by decide) (by omega) (by omega) (by simp only [Nat.reduceAdd, Nat.reducePow]; omega) (by omega) (by omega) (by omega)).trans (by omega)]
theorem val15 (op rd rn rm ra imm shift cond : Int) (h : CR3 rd rn rm ra imm shift cond) : (let s : Mk := ⟨2596284416, op, rd, rn, rm, ra, imm, shift, cond, true⟩; s.regs true true true).W = VR3 2596284416 rd rn rm ra imm shift cond := by
  simp only [CR3] at h
  simp only [VR3, Mk.regs, Mk.putRd, Mk.putRn, Mk.putRm, Mk.putRa, Mk.putImm, Mk.putShift, Mk.putCond, Mk.put26, Mk.put19, if_true, if_false, Bool.false_eq_true]
  rw [show enc_or (2596284416) rd (31 - 0) 0 = 2596284416 + rd from (enc_or_add (2596284416) rd 31 5 0 (by decide) (by decide) (by decide) (by decide) (by omega) (by omega) (by simp only [Nat.reduceAdd, Nat.reducePow]; omega) (by omega) (by omega) (by omega)).trans (by omega)]
  rw [show enc_or (2596284416 + rd) rn (31 - 0) 5 = 2596284416 + rd + 32 * rn from (enc_or_add (2596284416 + rd) rn 31 5 5 (by decide) (by decide) (by decide) (by decide) (by omega) (by omega) (by simp only [Nat.reduceAdd, Nat.reducePow]; omega) (by omega) (by omega) (by omega)).trans (by omega)]
  rw [show enc_or (2596284416 + rd + 32 * rn) rm (31 - 0) 16 = 2596284416 + rd + 32 * rn + 65536 * rm from (enc_or_add (2596284416 + rd + 32 * rn) rm 31 5 16 (by decide) (by decide) (by decide) (by decide) (by omega) (by omega) (by simp only [Nat.reduceAdd, Nat.reducePow]; omega) (by omega) (by omega) (by omega)).trans (by omega)]
/-- What Encode comes to: the word of an op, if its fields fit. -/
def isOp (op : Int) (rd rn rm ra imm shift cond : Int) : Prop :=
  (op = 1 ∧ CR3 rd rn rm ra imm shift cond) ∨ (op = 2 ∧ CR3 rd rn rm ra imm shift cond) ∨ (op = 3 ∧ CR3 rd rn rm ra imm shift cond) ∨ (op = 4 ∧ CRI rd rn rm ra imm shift cond) ∨ (op = 5 ∧ CRI rd rn rm ra imm shift cond) ∨ (op = 6 ∧ CRI rd rn rm ra imm shift cond) ∨ (op = 7 ∧ CR3 rd rn rm ra imm shift cond) ∨ (op = 8 ∧ CR3 rd rn rm ra imm shift cond) ∨ (op = 9 ∧ CR3 rd rn rm ra imm shift cond) ∨ (op = 10 ∧ CR3 rd rn rm ra imm shift cond) ∨ (op = 11 ∧ CR4 rd rn rm ra imm shift cond) ∨ (op = 12 ∧ CR4 rd rn rm ra imm shift cond) ∨ (op = 13 ∧ CR3 rd rn rm ra imm shift cond) ∨ (op = 14 ∧ CR3 rd rn rm ra imm shift cond) ∨ (op = 15 ∧ CR3 rd rn rm ra imm shift cond) ∨ (op = 16 ∧ CMV rd rn rm ra imm shift cond) ∨ (op = 17 ∧ CMV rd rn rm ra imm shift cond) ∨ (op = 18 ∧ CMV rd rn rm ra imm shift cond) ∨ (op = 19 ∧ CRI rd rn rm ra imm shift cond) ∨ (op = 20 ∧ CRI rd rn rm ra imm shift cond) ∨ (op = 21 ∧ CCS rd rn rm ra imm shift cond) ∨ (op = 22 ∧ CCS rd rn rm ra imm shift cond) ∨ (op = 23 ∧ CBR rd rn rm ra imm shift cond) ∨ (op = 24 ∧ CBR rd rn rm ra imm shift cond) ∨ (op = 25 ∧ CWH rd rn rm ra imm shift cond) ∨ (op = 26 ∧ CZR rd rn rm ra imm shift cond) ∨ (op = 27 ∧ CZR rd rn rm ra imm shift cond) ∨ (op = 28 ∧ CRT rd rn rm ra imm shift cond) ∨ (op = 29 ∧ CSV rd rn rm ra imm shift cond) ∨ (op = 30 ∧ CSV rd rn rm ra imm shift cond) ∨ (op = 31 ∧ CST rd rn rm ra imm shift cond)
theorem enc_fields (k : Int) : True := trivial
theorem enc1 (rd rn rm ra imm shift cond : Int) : encode_Encode.f 1 rd rn rm ra imm shift cond = some (open Classical in if CR3 rd rn rm ra imm shift cond then (VR3 2332033024 rd rn rm ra imm shift cond, 0) else (0, 120)) := by
  have hw : encode_word.f 1 = some (2332033024, true) := by decide +kernel
  simp only [encode_Encode.f, hw, Option.bind_some, if_true]
  have hf : Mk.fields ⟨2332033024, 1, rd, rn, rm, ra, imm, shift, cond, true⟩ = (let s : Mk := ⟨2332033024, 1, rd, rn, rm, ra, imm, shift, cond, true⟩; s.regs true true true) := by simp [Mk.fields]
  rw [hf]
  by_cases h : CR3 rd rn rm ra imm shift cond
  · rw [if_pos ((cleanR3 _ _ _ _ _ _ _ _ _).2 h), if_pos h, val1 _ _ _ _ _ _ _ _ h]
  · rw [if_neg (fun hc => h ((cleanR3 _ _ _ _ _ _ _ _ _).1 hc)), if_neg h]
theorem enc2 (rd rn rm ra imm shift cond : Int) : encode_Encode.f 2 rd rn rm ra imm shift cond = some (open Classical in if CR3 rd rn rm ra imm shift cond then (VR3 3405774848 rd rn rm ra imm shift cond, 0) else (0, 120)) := by
  have hw : encode_word.f 2 = some (3405774848, true) := by decide +kernel
  simp only [encode_Encode.f, hw, Option.bind_some, if_true]
  have hf : Mk.fields ⟨3405774848, 2, rd, rn, rm, ra, imm, shift, cond, true⟩ = (let s : Mk := ⟨3405774848, 2, rd, rn, rm, ra, imm, shift, cond, true⟩; s.regs true true true) := by simp [Mk.fields]
  rw [hf]
  by_cases h : CR3 rd rn rm ra imm shift cond
  · rw [if_pos ((cleanR3 _ _ _ _ _ _ _ _ _).2 h), if_pos h, val2 _ _ _ _ _ _ _ _ h]
  · rw [if_neg (fun hc => h ((cleanR3 _ _ _ _ _ _ _ _ _).1 hc)), if_neg h]
theorem enc3 (rd rn rm ra imm shift cond : Int) : encode_Encode.f 3 rd rn rm ra imm shift cond = some (open Classical in if CR3 rd rn rm ra imm shift cond then (VR3 3942645760 rd rn rm ra imm shift cond, 0) else (0, 120)) := by
  have hw : encode_word.f 3 = some (3942645760, true) := by decide +kernel
  simp only [encode_Encode.f, hw, Option.bind_some, if_true]
  have hf : Mk.fields ⟨3942645760, 3, rd, rn, rm, ra, imm, shift, cond, true⟩ = (let s : Mk := ⟨3942645760, 3, rd, rn, rm, ra, imm, shift, cond, true⟩; s.regs true true true) := by simp [Mk.fields]
  rw [hf]
  by_cases h : CR3 rd rn rm ra imm shift cond
  · rw [if_pos ((cleanR3 _ _ _ _ _ _ _ _ _).2 h), if_pos h, val3 _ _ _ _ _ _ _ _ h]
  · rw [if_neg (fun hc => h ((cleanR3 _ _ _ _ _ _ _ _ _).1 hc)), if_neg h]
theorem enc4 (rd rn rm ra imm shift cond : Int) : encode_Encode.f 4 rd rn rm ra imm shift cond = some (open Classical in if CRI rd rn rm ra imm shift cond then (VRI 2432696320 rd rn rm ra imm shift cond, 0) else (0, 120)) := by
  have hw : encode_word.f 4 = some (2432696320, true) := by decide +kernel
  simp only [encode_Encode.f, hw, Option.bind_some, if_true]
  have hf : Mk.fields ⟨2432696320, 4, rd, rn, rm, ra, imm, shift, cond, true⟩ = (let s : Mk := ⟨2432696320, 4, rd, rn, rm, ra, imm, shift, cond, true⟩; (s.regs true true false).putImm 4095 10) := by simp [Mk.fields]
  rw [hf]
  by_cases h : CRI rd rn rm ra imm shift cond
  · rw [if_pos ((cleanRI _ _ _ _ _ _ _ _ _).2 h), if_pos h, val4 _ _ _ _ _ _ _ _ h]
  · rw [if_neg (fun hc => h ((cleanRI _ _ _ _ _ _ _ _ _).1 hc)), if_neg h]
theorem enc5 (rd rn rm ra imm shift cond : Int) : encode_Encode.f 5 rd rn rm ra imm shift cond = some (open Classical in if CRI rd rn rm ra imm shift cond then (VRI 3506438144 rd rn rm ra imm shift cond, 0) else (0, 120)) := by
  have hw : encode_word.f 5 = some (3506438144, true) := by decide +kernel
  simp only [encode_Encode.f, hw, Option.bind_some, if_true]
  have hf : Mk.fields ⟨3506438144, 5, rd, rn, rm, ra, imm, shift, cond, true⟩ = (let s : Mk := ⟨3506438144, 5, rd, rn, rm, ra, imm, shift, cond, true⟩; (s.regs true true false).putImm 4095 10) := by simp [Mk.fields]
  rw [hf]
  by_cases h : CRI rd rn rm ra imm shift cond
  · rw [if_pos ((cleanRI _ _ _ _ _ _ _ _ _).2 h), if_pos h, val5 _ _ _ _ _ _ _ _ h]
  · rw [if_neg (fun hc => h ((cleanRI _ _ _ _ _ _ _ _ _).1 hc)), if_neg h]
theorem enc6 (rd rn rm ra imm shift cond : Int) : encode_Encode.f 6 rd rn rm ra imm shift cond = some (open Classical in if CRI rd rn rm ra imm shift cond then (VRI 4043309056 rd rn rm ra imm shift cond, 0) else (0, 120)) := by
  have hw : encode_word.f 6 = some (4043309056, true) := by decide +kernel
  simp only [encode_Encode.f, hw, Option.bind_some, if_true]
  have hf : Mk.fields ⟨4043309056, 6, rd, rn, rm, ra, imm, shift, cond, true⟩ = (let s : Mk := ⟨4043309056, 6, rd, rn, rm, ra, imm, shift, cond, true⟩; (s.regs true true false).putImm 4095 10) := by simp [Mk.fields]
  rw [hf]
  by_cases h : CRI rd rn rm ra imm shift cond
  · rw [if_pos ((cleanRI _ _ _ _ _ _ _ _ _).2 h), if_pos h, val6 _ _ _ _ _ _ _ _ h]
  · rw [if_neg (fun hc => h ((cleanRI _ _ _ _ _ _ _ _ _).1 hc)), if_neg h]
theorem enc7 (rd rn rm ra imm shift cond : Int) : encode_Encode.f 7 rd rn rm ra imm shift cond = some (open Classical in if CR3 rd rn rm ra imm shift cond then (VR3 2315255808 rd rn rm ra imm shift cond, 0) else (0, 120)) := by
  have hw : encode_word.f 7 = some (2315255808, true) := by decide +kernel
  simp only [encode_Encode.f, hw, Option.bind_some, if_true]
  have hf : Mk.fields ⟨2315255808, 7, rd, rn, rm, ra, imm, shift, cond, true⟩ = (let s : Mk := ⟨2315255808, 7, rd, rn, rm, ra, imm, shift, cond, true⟩; s.regs true true true) := by simp [Mk.fields]
  rw [hf]
  by_cases h : CR3 rd rn rm ra imm shift cond
  · rw [if_pos ((cleanR3 _ _ _ _ _ _ _ _ _).2 h), if_pos h, val7 _ _ _ _ _ _ _ _ h]
  · rw [if_neg (fun hc => h ((cleanR3 _ _ _ _ _ _ _ _ _).1 hc)), if_neg h]
theorem enc8 (rd rn rm ra imm shift cond : Int) : encode_Encode.f 8 rd rn rm ra imm shift cond = some (open Classical in if CR3 rd rn rm ra imm shift cond then (VR3 2852126720 rd rn rm ra imm shift cond, 0) else (0, 120)) := by
  have hw : encode_word.f 8 = some (2852126720, true) := by decide +kernel
  simp only [encode_Encode.f, hw, Option.bind_some, if_true]
  have hf : Mk.fields ⟨2852126720, 8, rd, rn, rm, ra, imm, shift, cond, true⟩ = (let s : Mk := ⟨2852126720, 8, rd, rn, rm, ra, imm, shift, cond, true⟩; s.regs true true true) := by simp [Mk.fields]
  rw [hf]
  by_cases h : CR3 rd rn rm ra imm shift cond
  · rw [if_pos ((cleanR3 _ _ _ _ _ _ _ _ _).2 h), if_pos h, val8 _ _ _ _ _ _ _ _ h]
  · rw [if_neg (fun hc => h ((cleanR3 _ _ _ _ _ _ _ _ _).1 hc)), if_neg h]
theorem enc9 (rd rn rm ra imm shift cond : Int) : encode_Encode.f 9 rd rn rm ra imm shift cond = some (open Classical in if CR3 rd rn rm ra imm shift cond then (VR3 3388997632 rd rn rm ra imm shift cond, 0) else (0, 120)) := by
  have hw : encode_word.f 9 = some (3388997632, true) := by decide +kernel
  simp only [encode_Encode.f, hw, Option.bind_some, if_true]
  have hf : Mk.fields ⟨3388997632, 9, rd, rn, rm, ra, imm, shift, cond, true⟩ = (let s : Mk := ⟨3388997632, 9, rd, rn, rm, ra, imm, shift, cond, true⟩; s.regs true true true) := by simp [Mk.fields]
  rw [hf]
  by_cases h : CR3 rd rn rm ra imm shift cond
  · rw [if_pos ((cleanR3 _ _ _ _ _ _ _ _ _).2 h), if_pos h, val9 _ _ _ _ _ _ _ _ h]
  · rw [if_neg (fun hc => h ((cleanR3 _ _ _ _ _ _ _ _ _).1 hc)), if_neg h]
theorem enc10 (rd rn rm ra imm shift cond : Int) : encode_Encode.f 10 rd rn rm ra imm shift cond = some (open Classical in if CR3 rd rn rm ra imm shift cond then (VR3 2854223872 rd rn rm ra imm shift cond, 0) else (0, 120)) := by
  have hw : encode_word.f 10 = some (2854223872, true) := by decide +kernel
  simp only [encode_Encode.f, hw, Option.bind_some, if_true]
  have hf : Mk.fields ⟨2854223872, 10, rd, rn, rm, ra, imm, shift, cond, true⟩ = (let s : Mk := ⟨2854223872, 10, rd, rn, rm, ra, imm, shift, cond, true⟩; s.regs true true true) := by simp [Mk.fields]
  rw [hf]
  by_cases h : CR3 rd rn rm ra imm shift cond
  · rw [if_pos ((cleanR3 _ _ _ _ _ _ _ _ _).2 h), if_pos h, val10 _ _ _ _ _ _ _ _ h]
  · rw [if_neg (fun hc => h ((cleanR3 _ _ _ _ _ _ _ _ _).1 hc)), if_neg h]
theorem enc11 (rd rn rm ra imm shift cond : Int) : encode_Encode.f 11 rd rn rm ra imm shift cond = some (open Classical in if CR4 rd rn rm ra imm shift cond then (VR4 2600468480 rd rn rm ra imm shift cond, 0) else (0, 120)) := by
  have hw : encode_word.f 11 = some (2600468480, true) := by decide +kernel
  simp only [encode_Encode.f, hw, Option.bind_some, if_true]
  have hf : Mk.fields ⟨2600468480, 11, rd, rn, rm, ra, imm, shift, cond, true⟩ = (let s : Mk := ⟨2600468480, 11, rd, rn, rm, ra, imm, shift, cond, true⟩; (s.regs true true true).putRa 31 10) := by simp [Mk.fields]
  rw [hf]
  by_cases h : CR4 rd rn rm ra imm shift cond
  · rw [if_pos ((cleanR4 _ _ _ _ _ _ _ _ _).2 h), if_pos h, val11 _ _ _ _ _ _ _ _ h]
  · rw [if_neg (fun hc => h ((cleanR4 _ _ _ _ _ _ _ _ _).1 hc)), if_neg h]
theorem enc12 (rd rn rm ra imm shift cond : Int) : encode_Encode.f 12 rd rn rm ra imm shift cond = some (open Classical in if CR4 rd rn rm ra imm shift cond then (VR4 2600501248 rd rn rm ra imm shift cond, 0) else (0, 120)) := by
  have hw : encode_word.f 12 = some (2600501248, true) := by decide +kernel
  simp only [encode_Encode.f, hw, Option.bind_some, if_true]
  have hf : Mk.fields ⟨2600501248, 12, rd, rn, rm, ra, imm, shift, cond, true⟩ = (let s : Mk := ⟨2600501248, 12, rd, rn, rm, ra, imm, shift, cond, true⟩; (s.regs true true true).putRa 31 10) := by simp [Mk.fields]
  rw [hf]
  by_cases h : CR4 rd rn rm ra imm shift cond
  · rw [if_pos ((cleanR4 _ _ _ _ _ _ _ _ _).2 h), if_pos h, val12 _ _ _ _ _ _ _ _ h]
  · rw [if_neg (fun hc => h ((cleanR4 _ _ _ _ _ _ _ _ _).1 hc)), if_neg h]
theorem enc13 (rd rn rm ra imm shift cond : Int) : encode_Encode.f 13 rd rn rm ra imm shift cond = some (open Classical in if CR3 rd rn rm ra imm shift cond then (VR3 2596277248 rd rn rm ra imm shift cond, 0) else (0, 120)) := by
  have hw : encode_word.f 13 = some (2596277248, true) := by decide +kernel
  simp only [encode_Encode.f, hw, Option.bind_some, if_true]
  have hf : Mk.fields ⟨2596277248, 13, rd, rn, rm, ra, imm, shift, cond, true⟩ = (let s : Mk := ⟨2596277248, 13, rd, rn, rm, ra, imm, shift, cond, true⟩; s.regs true true true) := by simp [Mk.fields]
  rw [hf]
  by_cases h : CR3 rd rn rm ra imm shift cond
  · rw [if_pos ((cleanR3 _ _ _ _ _ _ _ _ _).2 h), if_pos h, val13 _ _ _ _ _ _ _ _ h]
  · rw [if_neg (fun hc => h ((cleanR3 _ _ _ _ _ _ _ _ _).1 hc)), if_neg h]
theorem enc14 (rd rn rm ra imm shift cond : Int) : encode_Encode.f 14 rd rn rm ra imm shift cond = some (open Classical in if CR3 rd rn rm ra imm shift cond then (VR3 2596282368 rd rn rm ra imm shift cond, 0) else (0, 120)) := by
  have hw : encode_word.f 14 = some (2596282368, true) := by decide +kernel
  simp only [encode_Encode.f, hw, Option.bind_some, if_true]
  have hf : Mk.fields ⟨2596282368, 14, rd, rn, rm, ra, imm, shift, cond, true⟩ = (let s : Mk := ⟨2596282368, 14, rd, rn, rm, ra, imm, shift, cond, true⟩; s.regs true true true) := by simp [Mk.fields]
  rw [hf]
  by_cases h : CR3 rd rn rm ra imm shift cond
  · rw [if_pos ((cleanR3 _ _ _ _ _ _ _ _ _).2 h), if_pos h, val14 _ _ _ _ _ _ _ _ h]
  · rw [if_neg (fun hc => h ((cleanR3 _ _ _ _ _ _ _ _ _).1 hc)), if_neg h]
theorem enc15 (rd rn rm ra imm shift cond : Int) : encode_Encode.f 15 rd rn rm ra imm shift cond = some (open Classical in if CR3 rd rn rm ra imm shift cond then (VR3 2596284416 rd rn rm ra imm shift cond, 0) else (0, 120)) := by
  have hw : encode_word.f 15 = some (2596284416, true) := by decide +kernel
  simp only [encode_Encode.f, hw, Option.bind_some, if_true]
  have hf : Mk.fields ⟨2596284416, 15, rd, rn, rm, ra, imm, shift, cond, true⟩ = (let s : Mk := ⟨2596284416, 15, rd, rn, rm, ra, imm, shift, cond, true⟩; s.regs true true true) := by simp [Mk.fields]
  rw [hf]
  by_cases h : CR3 rd rn rm ra imm shift cond
  · rw [if_pos ((cleanR3 _ _ _ _ _ _ _ _ _).2 h), if_pos h, val15 _ _ _ _ _ _ _ _ h]
  · rw [if_neg (fun hc => h ((cleanR3 _ _ _ _ _ _ _ _ _).1 hc)), if_neg h]
theorem enc16 (rd rn rm ra imm shift cond : Int) : encode_Encode.f 16 rd rn rm ra imm shift cond = some (open Classical in if CMV rd rn rm ra imm shift cond then (VMV 3531603968 rd rn rm ra imm shift cond, 0) else (0, 120)) := by
  have hw : encode_word.f 16 = some (3531603968, true) := by decide +kernel
  simp only [encode_Encode.f, hw, Option.bind_some, if_true]
  have hf : Mk.fields ⟨3531603968, 16, rd, rn, rm, ra, imm, shift, cond, true⟩ = (let s : Mk := ⟨3531603968, 16, rd, rn, rm, ra, imm, shift, cond, true⟩; ((s.regs true false false).putImm 65535 5).putShift 3 21) := by simp [Mk.fields]
  rw [hf]
  by_cases h : CMV rd rn rm ra imm shift cond
  · rw [if_pos ((cleanMV _ _ _ _ _ _ _ _ _).2 h), if_pos h, val16 _ _ _ _ _ _ _ _ h]
  · rw [if_neg (fun hc => h ((cleanMV _ _ _ _ _ _ _ _ _).1 hc)), if_neg h]
theorem enc17 (rd rn rm ra imm shift cond : Int) : encode_Encode.f 17 rd rn rm ra imm shift cond = some (open Classical in if CMV rd rn rm ra imm shift cond then (VMV 4068474880 rd rn rm ra imm shift cond, 0) else (0, 120)) := by
  have hw : encode_word.f 17 = some (4068474880, true) := by decide +kernel
  simp only [encode_Encode.f, hw, Option.bind_some, if_true]
  have hf : Mk.fields ⟨4068474880, 17, rd, rn, rm, ra, imm, shift, cond, true⟩ = (let s : Mk := ⟨4068474880, 17, rd, rn, rm, ra, imm, shift, cond, true⟩; ((s.regs true false false).putImm 65535 5).putShift 3 21) := by simp [Mk.fields]
  rw [hf]
  by_cases h : CMV rd rn rm ra imm shift cond
  · rw [if_pos ((cleanMV _ _ _ _ _ _ _ _ _).2 h), if_pos h, val17 _ _ _ _ _ _ _ _ h]
  · rw [if_neg (fun hc => h ((cleanMV _ _ _ _ _ _ _ _ _).1 hc)), if_neg h]
theorem enc18 (rd rn rm ra imm shift cond : Int) : encode_Encode.f 18 rd rn rm ra imm shift cond = some (open Classical in if CMV rd rn rm ra imm shift cond then (VMV 2457862144 rd rn rm ra imm shift cond, 0) else (0, 120)) := by
  have hw : encode_word.f 18 = some (2457862144, true) := by decide +kernel
  simp only [encode_Encode.f, hw, Option.bind_some, if_true]
  have hf : Mk.fields ⟨2457862144, 18, rd, rn, rm, ra, imm, shift, cond, true⟩ = (let s : Mk := ⟨2457862144, 18, rd, rn, rm, ra, imm, shift, cond, true⟩; ((s.regs true false false).putImm 65535 5).putShift 3 21) := by simp [Mk.fields]
  rw [hf]
  by_cases h : CMV rd rn rm ra imm shift cond
  · rw [if_pos ((cleanMV _ _ _ _ _ _ _ _ _).2 h), if_pos h, val18 _ _ _ _ _ _ _ _ h]
  · rw [if_neg (fun hc => h ((cleanMV _ _ _ _ _ _ _ _ _).1 hc)), if_neg h]
theorem enc19 (rd rn rm ra imm shift cond : Int) : encode_Encode.f 19 rd rn rm ra imm shift cond = some (open Classical in if CRI rd rn rm ra imm shift cond then (VRI 4181721088 rd rn rm ra imm shift cond, 0) else (0, 120)) := by
  have hw : encode_word.f 19 = some (4181721088, true) := by decide +kernel
  simp only [encode_Encode.f, hw, Option.bind_some, if_true]
  have hf : Mk.fields ⟨4181721088, 19, rd, rn, rm, ra, imm, shift, cond, true⟩ = (let s : Mk := ⟨4181721088, 19, rd, rn, rm, ra, imm, shift, cond, true⟩; (s.regs true true false).putImm 4095 10) := by simp [Mk.fields]
  rw [hf]
  by_cases h : CRI rd rn rm ra imm shift cond
  · rw [if_pos ((cleanRI _ _ _ _ _ _ _ _ _).2 h), if_pos h, val19 _ _ _ _ _ _ _ _ h]
  · rw [if_neg (fun hc => h ((cleanRI _ _ _ _ _ _ _ _ _).1 hc)), if_neg h]
theorem enc20 (rd rn rm ra imm shift cond : Int) : encode_Encode.f 20 rd rn rm ra imm shift cond = some (open Classical in if CRI rd rn rm ra imm shift cond then (VRI 4177526784 rd rn rm ra imm shift cond, 0) else (0, 120)) := by
  have hw : encode_word.f 20 = some (4177526784, true) := by decide +kernel
  simp only [encode_Encode.f, hw, Option.bind_some, if_true]
  have hf : Mk.fields ⟨4177526784, 20, rd, rn, rm, ra, imm, shift, cond, true⟩ = (let s : Mk := ⟨4177526784, 20, rd, rn, rm, ra, imm, shift, cond, true⟩; (s.regs true true false).putImm 4095 10) := by simp [Mk.fields]
  rw [hf]
  by_cases h : CRI rd rn rm ra imm shift cond
  · rw [if_pos ((cleanRI _ _ _ _ _ _ _ _ _).2 h), if_pos h, val20 _ _ _ _ _ _ _ _ h]
  · rw [if_neg (fun hc => h ((cleanRI _ _ _ _ _ _ _ _ _).1 hc)), if_neg h]
theorem enc21 (rd rn rm ra imm shift cond : Int) : encode_Encode.f 21 rd rn rm ra imm shift cond = some (open Classical in if CCS rd rn rm ra imm shift cond then (VCS 2592079872 rd rn rm ra imm shift cond, 0) else (0, 120)) := by
  have hw : encode_word.f 21 = some (2592079872, true) := by decide +kernel
  simp only [encode_Encode.f, hw, Option.bind_some, if_true]
  have hf : Mk.fields ⟨2592079872, 21, rd, rn, rm, ra, imm, shift, cond, true⟩ = (let s : Mk := ⟨2592079872, 21, rd, rn, rm, ra, imm, shift, cond, true⟩; (s.regs true true true).putCond 15 12) := by simp [Mk.fields]
  rw [hf]
  by_cases h : CCS rd rn rm ra imm shift cond
  · rw [if_pos ((cleanCS _ _ _ _ _ _ _ _ _).2 h), if_pos h, val21 _ _ _ _ _ _ _ _ h]
  · rw [if_neg (fun hc => h ((cleanCS _ _ _ _ _ _ _ _ _).1 hc)), if_neg h]
theorem enc22 (rd rn rm ra imm shift cond : Int) : encode_Encode.f 22 rd rn rm ra imm shift cond = some (open Classical in if CCS rd rn rm ra imm shift cond then (VCS 2592080896 rd rn rm ra imm shift cond, 0) else (0, 120)) := by
  have hw : encode_word.f 22 = some (2592080896, true) := by decide +kernel
  simp only [encode_Encode.f, hw, Option.bind_some, if_true]
  have hf : Mk.fields ⟨2592080896, 22, rd, rn, rm, ra, imm, shift, cond, true⟩ = (let s : Mk := ⟨2592080896, 22, rd, rn, rm, ra, imm, shift, cond, true⟩; (s.regs true true true).putCond 15 12) := by simp [Mk.fields]
  rw [hf]
  by_cases h : CCS rd rn rm ra imm shift cond
  · rw [if_pos ((cleanCS _ _ _ _ _ _ _ _ _).2 h), if_pos h, val22 _ _ _ _ _ _ _ _ h]
  · rw [if_neg (fun hc => h ((cleanCS _ _ _ _ _ _ _ _ _).1 hc)), if_neg h]
theorem enc23 (rd rn rm ra imm shift cond : Int) : encode_Encode.f 23 rd rn rm ra imm shift cond = some (open Classical in if CBR rd rn rm ra imm shift cond then (VBR 335544320 rd rn rm ra imm shift cond, 0) else (0, 120)) := by
  have hw : encode_word.f 23 = some (335544320, true) := by decide +kernel
  simp only [encode_Encode.f, hw, Option.bind_some, if_true]
  have hf : Mk.fields ⟨335544320, 23, rd, rn, rm, ra, imm, shift, cond, true⟩ = (let s : Mk := ⟨335544320, 23, rd, rn, rm, ra, imm, shift, cond, true⟩; s.put26) := by simp [Mk.fields]
  rw [hf]
  by_cases h : CBR rd rn rm ra imm shift cond
  · rw [if_pos ((cleanBR _ _ _ _ _ _ _ _ _).2 h), if_pos h, val23 _ _ _ _ _ _ _ _ h]
  · rw [if_neg (fun hc => h ((cleanBR _ _ _ _ _ _ _ _ _).1 hc)), if_neg h]
theorem enc24 (rd rn rm ra imm shift cond : Int) : encode_Encode.f 24 rd rn rm ra imm shift cond = some (open Classical in if CBR rd rn rm ra imm shift cond then (VBR 2483027968 rd rn rm ra imm shift cond, 0) else (0, 120)) := by
  have hw : encode_word.f 24 = some (2483027968, true) := by decide +kernel
  simp only [encode_Encode.f, hw, Option.bind_some, if_true]
  have hf : Mk.fields ⟨2483027968, 24, rd, rn, rm, ra, imm, shift, cond, true⟩ = (let s : Mk := ⟨2483027968, 24, rd, rn, rm, ra, imm, shift, cond, true⟩; s.put26) := by simp [Mk.fields]
  rw [hf]
  by_cases h : CBR rd rn rm ra imm shift cond
  · rw [if_pos ((cleanBR _ _ _ _ _ _ _ _ _).2 h), if_pos h, val24 _ _ _ _ _ _ _ _ h]
  · rw [if_neg (fun hc => h ((cleanBR _ _ _ _ _ _ _ _ _).1 hc)), if_neg h]
theorem enc25 (rd rn rm ra imm shift cond : Int) : encode_Encode.f 25 rd rn rm ra imm shift cond = some (open Classical in if CWH rd rn rm ra imm shift cond then (VWH 1409286144 rd rn rm ra imm shift cond, 0) else (0, 120)) := by
  have hw : encode_word.f 25 = some (1409286144, true) := by decide +kernel
  simp only [encode_Encode.f, hw, Option.bind_some, if_true]
  have hf : Mk.fields ⟨1409286144, 25, rd, rn, rm, ra, imm, shift, cond, true⟩ = (let s : Mk := ⟨1409286144, 25, rd, rn, rm, ra, imm, shift, cond, true⟩; (s.putCond 15 0).put19) := by simp [Mk.fields]
  rw [hf]
  by_cases h : CWH rd rn rm ra imm shift cond
  · rw [if_pos ((cleanWH _ _ _ _ _ _ _ _ _).2 h), if_pos h, val25 _ _ _ _ _ _ _ _ h]
  · rw [if_neg (fun hc => h ((cleanWH _ _ _ _ _ _ _ _ _).1 hc)), if_neg h]
theorem enc26 (rd rn rm ra imm shift cond : Int) : encode_Encode.f 26 rd rn rm ra imm shift cond = some (open Classical in if CZR rd rn rm ra imm shift cond then (VZR 3019898880 rd rn rm ra imm shift cond, 0) else (0, 120)) := by
  have hw : encode_word.f 26 = some (3019898880, true) := by decide +kernel
  simp only [encode_Encode.f, hw, Option.bind_some, if_true]
  have hf : Mk.fields ⟨3019898880, 26, rd, rn, rm, ra, imm, shift, cond, true⟩ = (let s : Mk := ⟨3019898880, 26, rd, rn, rm, ra, imm, shift, cond, true⟩; (s.regs true false false).put19) := by simp [Mk.fields]
  rw [hf]
  by_cases h : CZR rd rn rm ra imm shift cond
  · rw [if_pos ((cleanZR _ _ _ _ _ _ _ _ _).2 h), if_pos h, val26 _ _ _ _ _ _ _ _ h]
  · rw [if_neg (fun hc => h ((cleanZR _ _ _ _ _ _ _ _ _).1 hc)), if_neg h]
theorem enc27 (rd rn rm ra imm shift cond : Int) : encode_Encode.f 27 rd rn rm ra imm shift cond = some (open Classical in if CZR rd rn rm ra imm shift cond then (VZR 3036676096 rd rn rm ra imm shift cond, 0) else (0, 120)) := by
  have hw : encode_word.f 27 = some (3036676096, true) := by decide +kernel
  simp only [encode_Encode.f, hw, Option.bind_some, if_true]
  have hf : Mk.fields ⟨3036676096, 27, rd, rn, rm, ra, imm, shift, cond, true⟩ = (let s : Mk := ⟨3036676096, 27, rd, rn, rm, ra, imm, shift, cond, true⟩; (s.regs true false false).put19) := by simp [Mk.fields]
  rw [hf]
  by_cases h : CZR rd rn rm ra imm shift cond
  · rw [if_pos ((cleanZR _ _ _ _ _ _ _ _ _).2 h), if_pos h, val27 _ _ _ _ _ _ _ _ h]
  · rw [if_neg (fun hc => h ((cleanZR _ _ _ _ _ _ _ _ _).1 hc)), if_neg h]
theorem enc28 (rd rn rm ra imm shift cond : Int) : encode_Encode.f 28 rd rn rm ra imm shift cond = some (open Classical in if CRT rd rn rm ra imm shift cond then (VRT 3596550144 rd rn rm ra imm shift cond, 0) else (0, 120)) := by
  have hw : encode_word.f 28 = some (3596550144, true) := by decide +kernel
  simp only [encode_Encode.f, hw, Option.bind_some, if_true]
  have hf : Mk.fields ⟨3596550144, 28, rd, rn, rm, ra, imm, shift, cond, true⟩ = (let s : Mk := ⟨3596550144, 28, rd, rn, rm, ra, imm, shift, cond, true⟩; s.regs false true false) := by simp [Mk.fields]
  rw [hf]
  by_cases h : CRT rd rn rm ra imm shift cond
  · rw [if_pos ((cleanRT _ _ _ _ _ _ _ _ _).2 h), if_pos h, val28 _ _ _ _ _ _ _ _ h]
  · rw [if_neg (fun hc => h ((cleanRT _ _ _ _ _ _ _ _ _).1 hc)), if_neg h]
theorem enc29 (rd rn rm ra imm shift cond : Int) : encode_Encode.f 29 rd rn rm ra imm shift cond = some (open Classical in if CSV rd rn rm ra imm shift cond then (VSV 3556769793 rd rn rm ra imm shift cond, 0) else (0, 120)) := by
  have hw : encode_word.f 29 = some (3556769793, true) := by decide +kernel
  simp only [encode_Encode.f, hw, Option.bind_some, if_true]
  have hf : Mk.fields ⟨3556769793, 29, rd, rn, rm, ra, imm, shift, cond, true⟩ = (let s : Mk := ⟨3556769793, 29, rd, rn, rm, ra, imm, shift, cond, true⟩; s.putImm 65535 5) := by simp [Mk.fields]
  rw [hf]
  by_cases h : CSV rd rn rm ra imm shift cond
  · rw [if_pos ((cleanSV _ _ _ _ _ _ _ _ _).2 h), if_pos h, val29 _ _ _ _ _ _ _ _ h]
  · rw [if_neg (fun hc => h ((cleanSV _ _ _ _ _ _ _ _ _).1 hc)), if_neg h]
theorem enc30 (rd rn rm ra imm shift cond : Int) : encode_Encode.f 30 rd rn rm ra imm shift cond = some (open Classical in if CSV rd rn rm ra imm shift cond then (VSV 3558866944 rd rn rm ra imm shift cond, 0) else (0, 120)) := by
  have hw : encode_word.f 30 = some (3558866944, true) := by decide +kernel
  simp only [encode_Encode.f, hw, Option.bind_some, if_true]
  have hf : Mk.fields ⟨3558866944, 30, rd, rn, rm, ra, imm, shift, cond, true⟩ = (let s : Mk := ⟨3558866944, 30, rd, rn, rm, ra, imm, shift, cond, true⟩; s.putImm 65535 5) := by simp [Mk.fields]
  rw [hf]
  by_cases h : CSV rd rn rm ra imm shift cond
  · rw [if_pos ((cleanSV _ _ _ _ _ _ _ _ _).2 h), if_pos h, val30 _ _ _ _ _ _ _ _ h]
  · rw [if_neg (fun hc => h ((cleanSV _ _ _ _ _ _ _ _ _).1 hc)), if_neg h]
theorem enc31 (rd rn rm ra imm shift cond : Int) : encode_Encode.f 31 rd rn rm ra imm shift cond = some (open Classical in if CST rd rn rm ra imm shift cond then (VST 3573751839 rd rn rm ra imm shift cond, 0) else (0, 120)) := by
  have hw : encode_word.f 31 = some (3573751839, true) := by decide +kernel
  simp only [encode_Encode.f, hw, Option.bind_some, if_true]
  have hf : Mk.fields ⟨3573751839, 31, rd, rn, rm, ra, imm, shift, cond, true⟩ = (let s : Mk := ⟨3573751839, 31, rd, rn, rm, ra, imm, shift, cond, true⟩; s) := by simp [Mk.fields]
  rw [hf]
  by_cases h : CST rd rn rm ra imm shift cond
  · rw [if_pos ((cleanST _ _ _ _ _ _ _ _ _).2 h), if_pos h, val31 _ _ _ _ _ _ _ _ h]
  · rw [if_neg (fun hc => h ((cleanST _ _ _ _ _ _ _ _ _).1 hc)), if_neg h]
theorem enc_none (op rd rn rm ra imm shift cond : Int) (h : op < 1 ∨ 31 < op) : encode_Encode.f op rd rn rm ra imm shift cond = some (0, 120) := by
  have hw : encode_word.f op = some (0, false) := by
    unfold encode_word.f encode_other.f
    repeat (rw [if_neg (by omega)])
    rfl
  simp only [encode_Encode.f, hw, Option.bind_some, Bool.false_eq_true, if_false]
end Go.Proofs.Ytjhgbddcenhkfaa.A64

set_option linter.unusedVariables false
set_option linter.unusedSimpArgs false
namespace Go.Proofs.Ytjhgbddcenhkfaa.A64
open Go.RowKit Go.Proofs.Ytjhgbddcenhkfaa.P Go.Proofs.YtjhgbddcenhkfaaW.PrintWords Go.Proofs.YtjhgbddcenhkfaaW.PrintLast Go.Proofs.YtjhgbddcenhkfaaW.PrintMore
/-- A word is of 32 bits. -/
theorem enc_range (op rd rn rm ra imm shift cond : Int) (W e : Int) (h : encode_Encode.f op rd rn rm ra imm shift cond = some (W, e)) : 0 ≤ W ∧ W < 4294967296 := by
  by_cases h0 : op < 1 ∨ 31 < op
  · rw [enc_none _ _ _ _ _ _ _ _ h0] at h
    simp only [Option.some.injEq, Prod.mk.injEq] at h
    omega
  · have hc : op = 1 ∨ op = 2 ∨ op = 3 ∨ op = 4 ∨ op = 5 ∨ op = 6 ∨ op = 7 ∨ op = 8 ∨ op = 9 ∨ op = 10 ∨ op = 11 ∨ op = 12 ∨ op = 13 ∨ op = 14 ∨ op = 15 ∨ op = 16 ∨ op = 17 ∨ op = 18 ∨ op = 19 ∨ op = 20 ∨ op = 21 ∨ op = 22 ∨ op = 23 ∨ op = 24 ∨ op = 25 ∨ op = 26 ∨ op = 27 ∨ op = 28 ∨ op = 29 ∨ op = 30 ∨ op = 31 := by omega
    rcases hc with rfl | rfl | rfl | rfl | rfl | rfl | rfl | rfl | rfl | rfl | rfl | rfl | rfl | rfl | rfl | rfl | rfl | rfl | rfl | rfl | rfl | rfl | rfl | rfl | rfl | rfl | rfl | rfl | rfl | rfl | rfl
    · rw [enc1] at h
      by_cases hC : CR3 rd rn rm ra imm shift cond
      · rw [if_pos hC] at h
        simp only [Option.some.injEq, Prod.mk.injEq, VR3] at h
        simp only [CR3] at hC
        omega
      · rw [if_neg hC] at h
        simp only [Option.some.injEq, Prod.mk.injEq] at h
        omega
    · rw [enc2] at h
      by_cases hC : CR3 rd rn rm ra imm shift cond
      · rw [if_pos hC] at h
        simp only [Option.some.injEq, Prod.mk.injEq, VR3] at h
        simp only [CR3] at hC
        omega
      · rw [if_neg hC] at h
        simp only [Option.some.injEq, Prod.mk.injEq] at h
        omega
    · rw [enc3] at h
      by_cases hC : CR3 rd rn rm ra imm shift cond
      · rw [if_pos hC] at h
        simp only [Option.some.injEq, Prod.mk.injEq, VR3] at h
        simp only [CR3] at hC
        omega
      · rw [if_neg hC] at h
        simp only [Option.some.injEq, Prod.mk.injEq] at h
        omega
    · rw [enc4] at h
      by_cases hC : CRI rd rn rm ra imm shift cond
      · rw [if_pos hC] at h
        simp only [Option.some.injEq, Prod.mk.injEq, VRI] at h
        simp only [CRI] at hC
        omega
      · rw [if_neg hC] at h
        simp only [Option.some.injEq, Prod.mk.injEq] at h
        omega
    · rw [enc5] at h
      by_cases hC : CRI rd rn rm ra imm shift cond
      · rw [if_pos hC] at h
        simp only [Option.some.injEq, Prod.mk.injEq, VRI] at h
        simp only [CRI] at hC
        omega
      · rw [if_neg hC] at h
        simp only [Option.some.injEq, Prod.mk.injEq] at h
        omega
    · rw [enc6] at h
      by_cases hC : CRI rd rn rm ra imm shift cond
      · rw [if_pos hC] at h
        simp only [Option.some.injEq, Prod.mk.injEq, VRI] at h
        simp only [CRI] at hC
        omega
      · rw [if_neg hC] at h
        simp only [Option.some.injEq, Prod.mk.injEq] at h
        omega
    · rw [enc7] at h
      by_cases hC : CR3 rd rn rm ra imm shift cond
      · rw [if_pos hC] at h
        simp only [Option.some.injEq, Prod.mk.injEq, VR3] at h
        simp only [CR3] at hC
        omega
      · rw [if_neg hC] at h
        simp only [Option.some.injEq, Prod.mk.injEq] at h
        omega
    · rw [enc8] at h
      by_cases hC : CR3 rd rn rm ra imm shift cond
      · rw [if_pos hC] at h
        simp only [Option.some.injEq, Prod.mk.injEq, VR3] at h
        simp only [CR3] at hC
        omega
      · rw [if_neg hC] at h
        simp only [Option.some.injEq, Prod.mk.injEq] at h
        omega
    · rw [enc9] at h
      by_cases hC : CR3 rd rn rm ra imm shift cond
      · rw [if_pos hC] at h
        simp only [Option.some.injEq, Prod.mk.injEq, VR3] at h
        simp only [CR3] at hC
        omega
      · rw [if_neg hC] at h
        simp only [Option.some.injEq, Prod.mk.injEq] at h
        omega
    · rw [enc10] at h
      by_cases hC : CR3 rd rn rm ra imm shift cond
      · rw [if_pos hC] at h
        simp only [Option.some.injEq, Prod.mk.injEq, VR3] at h
        simp only [CR3] at hC
        omega
      · rw [if_neg hC] at h
        simp only [Option.some.injEq, Prod.mk.injEq] at h
        omega
    · rw [enc11] at h
      by_cases hC : CR4 rd rn rm ra imm shift cond
      · rw [if_pos hC] at h
        simp only [Option.some.injEq, Prod.mk.injEq, VR4] at h
        simp only [CR4] at hC
        omega
      · rw [if_neg hC] at h
        simp only [Option.some.injEq, Prod.mk.injEq] at h
        omega
    · rw [enc12] at h
      by_cases hC : CR4 rd rn rm ra imm shift cond
      · rw [if_pos hC] at h
        simp only [Option.some.injEq, Prod.mk.injEq, VR4] at h
        simp only [CR4] at hC
        omega
      · rw [if_neg hC] at h
        simp only [Option.some.injEq, Prod.mk.injEq] at h
        omega
    · rw [enc13] at h
      by_cases hC : CR3 rd rn rm ra imm shift cond
      · rw [if_pos hC] at h
        simp only [Option.some.injEq, Prod.mk.injEq, VR3] at h
        simp only [CR3] at hC
        omega
      · rw [if_neg hC] at h
        simp only [Option.some.injEq, Prod.mk.injEq] at h
        omega
    · rw [enc14] at h
      by_cases hC : CR3 rd rn rm ra imm shift cond
      · rw [if_pos hC] at h
        simp only [Option.some.injEq, Prod.mk.injEq, VR3] at h
        simp only [CR3] at hC
        omega
      · rw [if_neg hC] at h
        simp only [Option.some.injEq, Prod.mk.injEq] at h
        omega
    · rw [enc15] at h
      by_cases hC : CR3 rd rn rm ra imm shift cond
      · rw [if_pos hC] at h
        simp only [Option.some.injEq, Prod.mk.injEq, VR3] at h
        simp only [CR3] at hC
        omega
      · rw [if_neg hC] at h
        simp only [Option.some.injEq, Prod.mk.injEq] at h
        omega
    · rw [enc16] at h
      by_cases hC : CMV rd rn rm ra imm shift cond
      · rw [if_pos hC] at h
        simp only [Option.some.injEq, Prod.mk.injEq, VMV] at h
        simp only [CMV] at hC
        omega
      · rw [if_neg hC] at h
        simp only [Option.some.injEq, Prod.mk.injEq] at h
        omega
    · rw [enc17] at h
      by_cases hC : CMV rd rn rm ra imm shift cond
      · rw [if_pos hC] at h
        simp only [Option.some.injEq, Prod.mk.injEq, VMV] at h
        simp only [CMV] at hC
        omega
      · rw [if_neg hC] at h
        simp only [Option.some.injEq, Prod.mk.injEq] at h
        omega
    · rw [enc18] at h
      by_cases hC : CMV rd rn rm ra imm shift cond
      · rw [if_pos hC] at h
        simp only [Option.some.injEq, Prod.mk.injEq, VMV] at h
        simp only [CMV] at hC
        omega
      · rw [if_neg hC] at h
        simp only [Option.some.injEq, Prod.mk.injEq] at h
        omega
    · rw [enc19] at h
      by_cases hC : CRI rd rn rm ra imm shift cond
      · rw [if_pos hC] at h
        simp only [Option.some.injEq, Prod.mk.injEq, VRI] at h
        simp only [CRI] at hC
        omega
      · rw [if_neg hC] at h
        simp only [Option.some.injEq, Prod.mk.injEq] at h
        omega
    · rw [enc20] at h
      by_cases hC : CRI rd rn rm ra imm shift cond
      · rw [if_pos hC] at h
        simp only [Option.some.injEq, Prod.mk.injEq, VRI] at h
        simp only [CRI] at hC
        omega
      · rw [if_neg hC] at h
        simp only [Option.some.injEq, Prod.mk.injEq] at h
        omega
    · rw [enc21] at h
      by_cases hC : CCS rd rn rm ra imm shift cond
      · rw [if_pos hC] at h
        simp only [Option.some.injEq, Prod.mk.injEq, VCS] at h
        simp only [CCS] at hC
        omega
      · rw [if_neg hC] at h
        simp only [Option.some.injEq, Prod.mk.injEq] at h
        omega
    · rw [enc22] at h
      by_cases hC : CCS rd rn rm ra imm shift cond
      · rw [if_pos hC] at h
        simp only [Option.some.injEq, Prod.mk.injEq, VCS] at h
        simp only [CCS] at hC
        omega
      · rw [if_neg hC] at h
        simp only [Option.some.injEq, Prod.mk.injEq] at h
        omega
    · rw [enc23] at h
      by_cases hC : CBR rd rn rm ra imm shift cond
      · rw [if_pos hC] at h
        simp only [Option.some.injEq, Prod.mk.injEq, VBR] at h
        simp only [CBR] at hC
        omega
      · rw [if_neg hC] at h
        simp only [Option.some.injEq, Prod.mk.injEq] at h
        omega
    · rw [enc24] at h
      by_cases hC : CBR rd rn rm ra imm shift cond
      · rw [if_pos hC] at h
        simp only [Option.some.injEq, Prod.mk.injEq, VBR] at h
        simp only [CBR] at hC
        omega
      · rw [if_neg hC] at h
        simp only [Option.some.injEq, Prod.mk.injEq] at h
        omega
    · rw [enc25] at h
      by_cases hC : CWH rd rn rm ra imm shift cond
      · rw [if_pos hC] at h
        simp only [Option.some.injEq, Prod.mk.injEq, VWH] at h
        simp only [CWH] at hC
        omega
      · rw [if_neg hC] at h
        simp only [Option.some.injEq, Prod.mk.injEq] at h
        omega
    · rw [enc26] at h
      by_cases hC : CZR rd rn rm ra imm shift cond
      · rw [if_pos hC] at h
        simp only [Option.some.injEq, Prod.mk.injEq, VZR] at h
        simp only [CZR] at hC
        omega
      · rw [if_neg hC] at h
        simp only [Option.some.injEq, Prod.mk.injEq] at h
        omega
    · rw [enc27] at h
      by_cases hC : CZR rd rn rm ra imm shift cond
      · rw [if_pos hC] at h
        simp only [Option.some.injEq, Prod.mk.injEq, VZR] at h
        simp only [CZR] at hC
        omega
      · rw [if_neg hC] at h
        simp only [Option.some.injEq, Prod.mk.injEq] at h
        omega
    · rw [enc28] at h
      by_cases hC : CRT rd rn rm ra imm shift cond
      · rw [if_pos hC] at h
        simp only [Option.some.injEq, Prod.mk.injEq, VRT] at h
        simp only [CRT] at hC
        omega
      · rw [if_neg hC] at h
        simp only [Option.some.injEq, Prod.mk.injEq] at h
        omega
    · rw [enc29] at h
      by_cases hC : CSV rd rn rm ra imm shift cond
      · rw [if_pos hC] at h
        simp only [Option.some.injEq, Prod.mk.injEq, VSV] at h
        simp only [CSV] at hC
        omega
      · rw [if_neg hC] at h
        simp only [Option.some.injEq, Prod.mk.injEq] at h
        omega
    · rw [enc30] at h
      by_cases hC : CSV rd rn rm ra imm shift cond
      · rw [if_pos hC] at h
        simp only [Option.some.injEq, Prod.mk.injEq, VSV] at h
        simp only [CSV] at hC
        omega
      · rw [if_neg hC] at h
        simp only [Option.some.injEq, Prod.mk.injEq] at h
        omega
    · rw [enc31] at h
      by_cases hC : CST rd rn rm ra imm shift cond
      · rw [if_pos hC] at h
        simp only [Option.some.injEq, Prod.mk.injEq, VST] at h
        simp only [CST] at hC
        omega
      · rw [if_neg hC] at h
        simp only [Option.some.injEq, Prod.mk.injEq] at h
        omega
/-- Encode, of whatever op: nothing, or one word. -/
theorem enc_tot (op rd rn rm ra imm shift cond : Int) : encode_Encode.f op rd rn rm ra imm shift cond = some (0, 120) ∨ ∃ W, encode_Encode.f op rd rn rm ra imm shift cond = some (W, 0) := by
  by_cases h0 : op < 1 ∨ 31 < op
  · exact .inl (enc_none _ _ _ _ _ _ _ _ h0)
  · have hc : op = 1 ∨ op = 2 ∨ op = 3 ∨ op = 4 ∨ op = 5 ∨ op = 6 ∨ op = 7 ∨ op = 8 ∨ op = 9 ∨ op = 10 ∨ op = 11 ∨ op = 12 ∨ op = 13 ∨ op = 14 ∨ op = 15 ∨ op = 16 ∨ op = 17 ∨ op = 18 ∨ op = 19 ∨ op = 20 ∨ op = 21 ∨ op = 22 ∨ op = 23 ∨ op = 24 ∨ op = 25 ∨ op = 26 ∨ op = 27 ∨ op = 28 ∨ op = 29 ∨ op = 30 ∨ op = 31 := by omega
    rcases hc with rfl | rfl | rfl | rfl | rfl | rfl | rfl | rfl | rfl | rfl | rfl | rfl | rfl | rfl | rfl | rfl | rfl | rfl | rfl | rfl | rfl | rfl | rfl | rfl | rfl | rfl | rfl | rfl | rfl | rfl | rfl
    · by_cases h : CR3 rd rn rm ra imm shift cond
      · exact .inr ⟨_, by rw [enc1, if_pos h]⟩
      · exact .inl (by rw [enc1, if_neg h])
    · by_cases h : CR3 rd rn rm ra imm shift cond
      · exact .inr ⟨_, by rw [enc2, if_pos h]⟩
      · exact .inl (by rw [enc2, if_neg h])
    · by_cases h : CR3 rd rn rm ra imm shift cond
      · exact .inr ⟨_, by rw [enc3, if_pos h]⟩
      · exact .inl (by rw [enc3, if_neg h])
    · by_cases h : CRI rd rn rm ra imm shift cond
      · exact .inr ⟨_, by rw [enc4, if_pos h]⟩
      · exact .inl (by rw [enc4, if_neg h])
    · by_cases h : CRI rd rn rm ra imm shift cond
      · exact .inr ⟨_, by rw [enc5, if_pos h]⟩
      · exact .inl (by rw [enc5, if_neg h])
    · by_cases h : CRI rd rn rm ra imm shift cond
      · exact .inr ⟨_, by rw [enc6, if_pos h]⟩
      · exact .inl (by rw [enc6, if_neg h])
    · by_cases h : CR3 rd rn rm ra imm shift cond
      · exact .inr ⟨_, by rw [enc7, if_pos h]⟩
      · exact .inl (by rw [enc7, if_neg h])
    · by_cases h : CR3 rd rn rm ra imm shift cond
      · exact .inr ⟨_, by rw [enc8, if_pos h]⟩
      · exact .inl (by rw [enc8, if_neg h])
    · by_cases h : CR3 rd rn rm ra imm shift cond
      · exact .inr ⟨_, by rw [enc9, if_pos h]⟩
      · exact .inl (by rw [enc9, if_neg h])
    · by_cases h : CR3 rd rn rm ra imm shift cond
      · exact .inr ⟨_, by rw [enc10, if_pos h]⟩
      · exact .inl (by rw [enc10, if_neg h])
    · by_cases h : CR4 rd rn rm ra imm shift cond
      · exact .inr ⟨_, by rw [enc11, if_pos h]⟩
      · exact .inl (by rw [enc11, if_neg h])
    · by_cases h : CR4 rd rn rm ra imm shift cond
      · exact .inr ⟨_, by rw [enc12, if_pos h]⟩
      · exact .inl (by rw [enc12, if_neg h])
    · by_cases h : CR3 rd rn rm ra imm shift cond
      · exact .inr ⟨_, by rw [enc13, if_pos h]⟩
      · exact .inl (by rw [enc13, if_neg h])
    · by_cases h : CR3 rd rn rm ra imm shift cond
      · exact .inr ⟨_, by rw [enc14, if_pos h]⟩
      · exact .inl (by rw [enc14, if_neg h])
    · by_cases h : CR3 rd rn rm ra imm shift cond
      · exact .inr ⟨_, by rw [enc15, if_pos h]⟩
      · exact .inl (by rw [enc15, if_neg h])
    · by_cases h : CMV rd rn rm ra imm shift cond
      · exact .inr ⟨_, by rw [enc16, if_pos h]⟩
      · exact .inl (by rw [enc16, if_neg h])
    · by_cases h : CMV rd rn rm ra imm shift cond
      · exact .inr ⟨_, by rw [enc17, if_pos h]⟩
      · exact .inl (by rw [enc17, if_neg h])
    · by_cases h : CMV rd rn rm ra imm shift cond
      · exact .inr ⟨_, by rw [enc18, if_pos h]⟩
      · exact .inl (by rw [enc18, if_neg h])
    · by_cases h : CRI rd rn rm ra imm shift cond
      · exact .inr ⟨_, by rw [enc19, if_pos h]⟩
      · exact .inl (by rw [enc19, if_neg h])
    · by_cases h : CRI rd rn rm ra imm shift cond
      · exact .inr ⟨_, by rw [enc20, if_pos h]⟩
      · exact .inl (by rw [enc20, if_neg h])
    · by_cases h : CCS rd rn rm ra imm shift cond
      · exact .inr ⟨_, by rw [enc21, if_pos h]⟩
      · exact .inl (by rw [enc21, if_neg h])
    · by_cases h : CCS rd rn rm ra imm shift cond
      · exact .inr ⟨_, by rw [enc22, if_pos h]⟩
      · exact .inl (by rw [enc22, if_neg h])
    · by_cases h : CBR rd rn rm ra imm shift cond
      · exact .inr ⟨_, by rw [enc23, if_pos h]⟩
      · exact .inl (by rw [enc23, if_neg h])
    · by_cases h : CBR rd rn rm ra imm shift cond
      · exact .inr ⟨_, by rw [enc24, if_pos h]⟩
      · exact .inl (by rw [enc24, if_neg h])
    · by_cases h : CWH rd rn rm ra imm shift cond
      · exact .inr ⟨_, by rw [enc25, if_pos h]⟩
      · exact .inl (by rw [enc25, if_neg h])
    · by_cases h : CZR rd rn rm ra imm shift cond
      · exact .inr ⟨_, by rw [enc26, if_pos h]⟩
      · exact .inl (by rw [enc26, if_neg h])
    · by_cases h : CZR rd rn rm ra imm shift cond
      · exact .inr ⟨_, by rw [enc27, if_pos h]⟩
      · exact .inl (by rw [enc27, if_neg h])
    · by_cases h : CRT rd rn rm ra imm shift cond
      · exact .inr ⟨_, by rw [enc28, if_pos h]⟩
      · exact .inl (by rw [enc28, if_neg h])
    · by_cases h : CSV rd rn rm ra imm shift cond
      · exact .inr ⟨_, by rw [enc29, if_pos h]⟩
      · exact .inl (by rw [enc29, if_neg h])
    · by_cases h : CSV rd rn rm ra imm shift cond
      · exact .inr ⟨_, by rw [enc30, if_pos h]⟩
      · exact .inl (by rw [enc30, if_neg h])
    · by_cases h : CST rd rn rm ra imm shift cond
      · exact .inr ⟨_, by rw [enc31, if_pos h]⟩
      · exact .inl (by rw [enc31, if_neg h])
end Go.Proofs.Ytjhgbddcenhkfaa.A64

set_option linter.unusedVariables false
set_option linter.unusedSimpArgs false
namespace Go.Proofs.Ytjhgbddcenhkfaa.P
open Go.RowKit Go.Proofs.YtjhgbddcenhkfaaW.PrintWords Go.Proofs.YtjhgbddcenhkfaaW.PrintLast Go.Proofs.YtjhgbddcenhkfaaW.PrintMore
open A64 in
theorem enc_ok (op rd rn rm ra imm shift cond W : Int) (h : encode_Encode.f op rd rn rm ra imm shift cond = some (W, 0)) : 1 ≤ op ∧ okI ⟨op, rd, rn, rm, ra, imm, shift, cond⟩ := by
  by_cases h0 : op < 1 ∨ 31 < op
  · rw [enc_none _ _ _ _ _ _ _ _ h0] at h
    simp at h
  · have hc : op = 1 ∨ op = 2 ∨ op = 3 ∨ op = 4 ∨ op = 5 ∨ op = 6 ∨ op = 7 ∨ op = 8 ∨ op = 9 ∨ op = 10 ∨ op = 11 ∨ op = 12 ∨ op = 13 ∨ op = 14 ∨ op = 15 ∨ op = 16 ∨ op = 17 ∨ op = 18 ∨ op = 19 ∨ op = 20 ∨ op = 21 ∨ op = 22 ∨ op = 23 ∨ op = 24 ∨ op = 25 ∨ op = 26 ∨ op = 27 ∨ op = 28 ∨ op = 29 ∨ op = 30 ∨ op = 31 := by omega
    rcases hc with rfl | rfl | rfl | rfl | rfl | rfl | rfl | rfl | rfl | rfl | rfl | rfl | rfl | rfl | rfl | rfl | rfl | rfl | rfl | rfl | rfl | rfl | rfl | rfl | rfl | rfl | rfl | rfl | rfl | rfl | rfl
    all_goals
      first | rw [enc1] at h | rw [enc2] at h | rw [enc3] at h | rw [enc4] at h | rw [enc5] at h | rw [enc6] at h | rw [enc7] at h | rw [enc8] at h | rw [enc9] at h | rw [enc10] at h | rw [enc11] at h | rw [enc12] at h | rw [enc13] at h | rw [enc14] at h | rw [enc15] at h | rw [enc16] at h | rw [enc17] at h | rw [enc18] at h | rw [enc19] at h | rw [enc20] at h | rw [enc21] at h | rw [enc22] at h | rw [enc23] at h | rw [enc24] at h | rw [enc25] at h | rw [enc26] at h | rw [enc27] at h | rw [enc28] at h | rw [enc29] at h | rw [enc30] at h | rw [enc31] at h
      split at h
      · rename_i hc
        simp only [CR3, CRI, CR4, CMV, CCS, CBR, CWH, CZR, CRT, CSV, CST] at hc
        exact ⟨by omega, ⟨by dsimp only; omega, by dsimp only; omega, ⟨by dsimp only; omega, by dsimp only; omega⟩, ⟨by dsimp only; omega, by dsimp only; omega⟩, ⟨by dsimp only; omega, by dsimp only; omega⟩, ⟨by dsimp only; omega, by dsimp only; omega⟩, ⟨by dsimp only; omega, by dsimp only; omega⟩⟩⟩
      · simp at h
theorem bind_ex {α β : Type} {o : Option α} {f : α → Option β} (h1 : ∃ r, o = some r) (h2 : ∀ r, ∃ q, f r = some q) : ∃ q, o.bind f = some q := by
  obtain ⟨r, rfl⟩ := h1
  exact h2 r
theorem guess_tot (W op : Int) (h0 : 1 ≤ op) (h1 : op ≤ 31) : decode_guess.f W op = some (gs W op) := by
  unfold decode_guess.f
  rw [if_pos ⟨h0, h1⟩]
def Z0 : Ins := ⟨0, 0, 0, 0, 0, 0, 0, 0⟩
theorem l0_tot (W : Int) (L : List Int) (hL : L.length < 1000) (hr : ∀ x ∈ L, 1 ≤ x ∧ x ≤ 31) : ∀ (n k i : Nat), i + n = L.length → ∃ (x : Ins) (e : Int), decode_Decode.l0 (n + 9 + k) W L (L.length : Int) (i : Int) = some (x.f0, x.f1, x.f2, x.f3, x.f4, x.f5, x.f6, x.f7, e) ∧ ((x = Z0 ∧ e = 120) ∨ (e = 0 ∧ encode_Encode.f x.f0 x.f1 x.f2 x.f3 x.f4 x.f5 x.f6 x.f7 = some (W, 0)))
  | 0, k, i, hi => by
    refine ⟨Z0, 120, ?_, .inl ⟨rfl, rfl⟩⟩
    rw [show 0 + 9 + k = (8 + k) + 1 by omega, decode_Decode.l0, if_neg (by omega)]
    rfl
  | n + 1, k, i, hi => by
    have hx : ∃ x, decode_guess.f W (rd L (i : Int)) = some x := by
      have hm : rd L (i : Int) ∈ L := by
        unfold rd
        rw [Int.toNat_natCast, List.getD_eq_getElem?_getD, List.getElem?_eq_getElem (by omega)]
        exact List.getElem_mem _
      exact ⟨_, guess_tot _ _ (hr _ hm).1 (hr _ hm).2⟩
    obtain ⟨x, hx⟩ := hx
    have hw : wrap64 ((i : Int) + 1) = ((i + 1 : Nat) : Int) := by unfold wrap64; omega
    obtain ⟨y, e, hy, hy2⟩ := l0_tot W L hL hr n k (i + 1) (by omega)
    have hstep : ∀ r, decode_Decode.l0 (n + 1 + 9 + k) W L (L.length : Int) (i : Int) = r ↔ ((encode_Encode.f x.1 x.2.1 x.2.2.1 x.2.2.2.1 x.2.2.2.2.1 x.2.2.2.2.2.1 x.2.2.2.2.2.2.1 x.2.2.2.2.2.2.2).bind fun b => if b.2 = 0 then (if b.1 = W then some (x.1, x.2.1, x.2.2.1, x.2.2.2.1, x.2.2.2.2.1, x.2.2.2.2.2.1, x.2.2.2.2.2.2.1, x.2.2.2.2.2.2.2, (0 : Int)) else decode_Decode.l0 (n + 9 + k) W L (L.length : Int) (wrap64 ((i : Int) + 1))) else decode_Decode.l0 (n + 9 + k) W L (L.length : Int) (wrap64 ((i : Int) + 1))) = r := by
      intro r
      rw [show n + 1 + 9 + k = (n + 9 + k) + 1 by omega]
      conv => lhs; rw [decode_Decode.l0]
      rw [if_pos (by omega), if_pos (by omega), if_pos (by omega), hx]
      rfl
    rcases A64.enc_tot x.1 x.2.1 x.2.2.1 x.2.2.2.1 x.2.2.2.2.1 x.2.2.2.2.2.1 x.2.2.2.2.2.2.1 x.2.2.2.2.2.2.2 with he | ⟨V, he⟩
    · refine ⟨y, e, (hstep _).mpr ?_, hy2⟩
      rw [he, Option.bind_some, if_neg (by decide), hw]
      exact hy
    · by_cases hv : V = W
      · refine ⟨⟨x.1, x.2.1, x.2.2.1, x.2.2.2.1, x.2.2.2.2.1, x.2.2.2.2.2.1, x.2.2.2.2.2.2.1, x.2.2.2.2.2.2.2⟩, 0, (hstep _).mpr ?_, .inr ⟨rfl, by rw [← hv]; exact he⟩⟩
        rw [he, Option.bind_some, if_pos rfl, if_pos hv]
      · refine ⟨y, e, (hstep _).mpr ?_, hy2⟩
        rw [he, Option.bind_some, if_pos rfl, if_neg hv, hw]
        exact hy
theorem ite_len {c : Prop} [Decidable c] {a b : Option (List Int)} (h1 : ∃ L, a = some L ∧ L.length ≤ 5 ∧ ∀ x ∈ L, 1 ≤ x ∧ x ≤ 31) (h2 : ∃ L, b = some L ∧ L.length ≤ 5 ∧ ∀ x ∈ L, 1 ≤ x ∧ x ≤ 31) : ∃ L, (if c then a else b) = some L ∧ L.length ≤ 5 ∧ ∀ x ∈ L, 1 ≤ x ∧ x ≤ 31 := by
  split
  · exact h1
  · exact h2
theorem class_len (W : Int) : ∃ L, decode_class.f W = some L ∧ L.length ≤ 5 ∧ ∀ x ∈ L, 1 ≤ x ∧ x ≤ 31 := by
  unfold decode_class.f
  repeat' (first | (with_reducible refine ite_len ?_ ?_) | exact ⟨_, rfl, by decide⟩)
theorem dec_tot (W : Int) : ∃ (x : Ins) (e : Int), decode_Decode.f 20 W = some (x.f0, x.f1, x.f2, x.f3, x.f4, x.f5, x.f6, x.f7, e) ∧ ((x = Z0 ∧ e = 120) ∨ (e = 0 ∧ encode_Encode.f x.f0 x.f1 x.f2 x.f3 x.f4 x.f5 x.f6 x.f7 = some (W, 0))) := by
  obtain ⟨L, hL, hl, hr⟩ := class_len W
  obtain ⟨x, e, h1, h2⟩ := l0_tot W L (by omega) hr L.length (11 - L.length) 0 (by omega)
  refine ⟨x, e, ?_, h2⟩
  unfold decode_Decode.f
  rw [hL, Option.bind_some, show (20 : Nat) = L.length + 9 + (11 - L.length) by omega]
  exact h1
/-- A word's instruction, and why there is none. -/
def dcd (W : Int) : Ins × Int := match decode_Decode.f 20 W with
  | some r => (⟨r.1, r.2.1, r.2.2.1, r.2.2.2.1, r.2.2.2.2.1, r.2.2.2.2.2.1, r.2.2.2.2.2.2.1, r.2.2.2.2.2.2.2.1⟩, r.2.2.2.2.2.2.2.2)
  | none => (Z0, 120)
theorem dcd_is (W : Int) : ((dcd W).1 = Z0 ∧ (dcd W).2 = 120) ∨ ((dcd W).2 = 0 ∧ encode_Encode.f (dcd W).1.f0 (dcd W).1.f1 (dcd W).1.f2 (dcd W).1.f3 (dcd W).1.f4 (dcd W).1.f5 (dcd W).1.f6 (dcd W).1.f7 = some (W, 0)) := by
  obtain ⟨x, e, h1, h2⟩ := dec_tot W
  have hd : dcd W = (x, e) := by unfold dcd; rw [h1]
  rw [hd]
  exact h2
theorem dcd_ok (W : Int) : (dcd W).1.f0 = 0 ∨ okI (dcd W).1 := by
  rcases dcd_is W with ⟨h, _⟩ | ⟨_, h⟩
  · rw [h]; exact .inl rfl
  · exact .inr (enc_ok _ _ _ _ _ _ _ _ _ h).2
theorem dcd_run (W : Int) (w : World) : Calls Try.prog 33 #[.int .u32 W] w fun e w' => e = .returned (.tuple #[insA (dcd W).1, .int .i64 (dcd W).2]) ∧ Below w.heap.size w w' := by
  obtain ⟨x, e, h1, h2⟩ := dec_tot W
  have hd : dcd W = (x, e) := by unfold dcd; rw [h1]
  rw [hd]
  exact decode_Decode.calls 20 W _ _ _ _ _ _ _ _ _ w h1
end Go.Proofs.Ytjhgbddcenhkfaa.P

set_option linter.unusedVariables false
set_option linter.unusedSimpArgs false
namespace Go.Proofs.Ytjhgbddcenhkfaa.P
open Go.RowKit Go.Proofs.YtjhgbddcenhkfaaW.PrintWords Go.Proofs.YtjhgbddcenhkfaaW.PrintLast Go.Proofs.YtjhgbddcenhkfaaW.PrintMore
/-- A processor at its beginning, of words so far. -/
def newC (ws : List Int) (m : Nat) : CS := ⟨ws.map (fun u => (dcd u).1), List.replicate 32 0, false, false, false, false, 0, List.replicate m 0⟩
theorem SOK_new (ws : List Int) (m : Nat) (h : ws.length ≤ 65536) : SOK (newC ws m) := by
  refine ⟨by show (0 : Int) ≤ 0; decide, by simp [newC], by simp [newC]; exact h, ?_, ?_⟩
  · intro x hx
    simp only [newC, List.mem_map] at hx
    obtain ⟨u, _, rfl⟩ := hx
    exact dcd_ok u
  · intro y hy
    have := List.eq_of_mem_replicate hy
    omega
theorem made_cells (m : Nat) : madeCells #[Value.int .u8 0] m = ((List.replicate m (0 : Int)).map (Value.int .u8)).toArray := by
  apply Array.ext'
  have hl : (madeCells #[Value.int .u8 0] m).toList = nums .u8 (List.replicate m 0) := by
    apply List.ext_getElem
    · simp [nums, madeCells]
    · intro i h1 h2
      simp [nums, madeCells, Nat.mod_one]
  rw [hl]
  rfl
def insL (y : Ins) : List Value := [.int .i64 y.f0, .int .i64 y.f1, .int .i64 y.f2, .int .i64 y.f3, .int .i64 y.f4, .int .i64 y.f5, .int .i64 y.f6, .int .i64 y.f7]
theorem row_one {w' : World} {g : Nat} {x : Ins} (hb : w'.heap[g]? = some (.cells (insL x).toArray 61 (0, 0))) : ReadsRow (fun y cs => cs = insL y) 8 w' (some ⟨g, 0, none⟩) 1 [x] := by
  refine ⟨rfl, by decide, fun _ => ⟨_, rfl, fun j q hj => ?_⟩⟩
  match j, hj with
  | 0, hj =>
    simp at hj
    subst hj
    refine ⟨insL x, rfl, rfl, fun i u hu => ?_⟩
    rw [add_plain, blk_cell hb]
    simpa using hu
theorem newC_succ (ws : List Int) (k m : Nat) (h : k < ws.length) : newC (ws.take (k + 1)) m = { newC (ws.take k) m with ws := (newC (ws.take k) m).ws ++ [(dcd (rd ws (k : Int))).1] } := by
  unfold newC
  simp only [List.take_succ_eq_append_getElem h, List.map_append, List.map_cons, List.map_nil]
  have : rd ws (k : Int) = ws[k] := by
    unfold rd
    rw [Int.toNat_natCast, List.getD_eq_getElem?_getD, List.getElem?_eq_getElem h]
    rfl
  rw [this]
theorem new_grown (w1 : World) (B : Nat) (A : Option Addr) (c : Nat) (A1 : Option Addr) (c1 : Nat) (ws : List Int) (k m : Nat) (x : Ins) (hk : k < ws.length) (hx : x = (dcd (rd ws (k : Int))).1)
    (ho : Kd.R k61 61 w1 B (fun b => b ≠ B + 1 ∧ b ≠ B) (.slice A1 ((newC (ws.take k) m).ws.length + 1) c1) ((newC (ws.take k) m).ws ++ [x]))
    (hp : w1.heap[B + 1]? = some (.cells (cpuL A c B (newC (ws.take k) m)).toArray 69 (0, 0))) (hm : w1.heap[B]? = some (.cells ((newC (ws.take k) m).m.map (Value.int .u8)).toArray 5 (0, 0))) (hml : m ≤ 65536) :
    COK (w1.setCell ⟨B + 1, 0, none⟩ (.slice A1 ((newC (ws.take k) m).ws.length + 1) c1)) 69 B (w1.setCell ⟨B + 1, 0, none⟩ (.slice A1 ((newC (ws.take k) m).ws.length + 1) c1)).heap.size (B + 1) A1 c1 B (newC (ws.take (k + 1)) m) := by
  have hs : (w1.setCell ⟨B + 1, 0, none⟩ (.slice A1 ((newC (ws.take k) m).ws.length + 1) c1)).heap.size = w1.heap.size := World.size_setCell _ _ _
  have h1 := blk_lt hp
  have h2 := blk_lt hm
  rw [newC_succ ws k m hk, ← hx]
  refine ⟨.inl rfl, by omega, Nat.le_refl _, by omega, by omega, by omega, by simp [newC], by simp [newC]; omega, ?_, ?_, ?_⟩
  · refine blk_put hp 0 _ ?_
    rw [List.setIfInBounds_toArray]
    unfold cpuL
    rw [List.set_cons_zero, List.length_append]
    rfl
  · exact blk_far hm (p := ⟨B + 1, 0, none⟩) (by show B ≠ B + 1; omega) _
  · have hr := Kd.R_kept (S := fun b => b = B + 1) ho ((Kept.refl w1 (fun b => b = B + 1)).setCell (p := ⟨B + 1, 0, none⟩) (.inl rfl) (.slice A1 ((newC (ws.take k) m).ws.length + 1) c1)) (fun b hb => hb.1)
    have hr2 := Kd.R_mono (ok' := fun b => b ≠ B + 1 ∧ b ≠ B ∧ b < (w1.setCell ⟨B + 1, 0, none⟩ (.slice A1 ((newC (ws.take k) m).ws.length + 1) c1)).heap.size) (Kd.R_bound hr) (fun b hb => ⟨hb.1.1, hb.1.2, hb.2.2.1⟩)
    rw [List.length_append]
    exact hr2
set_option maxRecDepth 100000 in
set_option maxHeartbeats 2000000 in
theorem new_run (w : World) (A0 : Option Addr) (c0 : Nat) (ws : List Int) (hr0 : Kd.C (Kd.int .u32) w A0 ws.length ws) (hc0 : ws.length ≤ c0) (hl : ws.length ≤ 65536) (m : Nat) (hm : m ≤ 65536) :
    Calls Try.prog 16 #[.slice A0 ws.length c0, .int .i64 m] w fun e w' => ∃ p A c bm, e = .returned (.tuple #[.pointer (some ⟨p, 0, none⟩), .int .i64 0]) ∧ COK w' 69 w.heap.size w'.heap.size p A c bm (newC ws m) ∧ Below w.heap.size w w' := by
  have HR0 := Aside0.mk hr0
  clear hr0
  have hmk := print_make (P := Try.prog) 49 5 .u8 1 Try.underlying49 (by kernel_rfl) (by decide) m (by omega)
  have hm0 : ¬ (m : Int) < 0 := by omega
  have hm1 : ¬ (m : Int) > 65536 := by omega
  have hl1 : ¬ (ws.length : Int) > 65536 := by omega
  go_enter Try.func16, Try.ntmps16
  go_wp2_with fail
  obtain ⟨W0, hW0⟩ : ∃ W0, (w.alloc (.cells (madeCells #[Value.int .u8 0] m) 5)).alloc (.cells (cpuL none 0 w.heap.size (newC [] m)).toArray 69) = W0 := ⟨_, rfl⟩
  have hcl : (cpuL none 0 w.heap.size (newC [] m)).toArray = #[.slice none 0 0, .int .i64 0, .int .i64 0, .int .i64 0, .int .i64 0, .int .i64 0, .int .i64 0, .int .i64 0, .int .i64 0, .int .i64 0, .int .i64 0, .int .i64 0, .int .i64 0, .int .i64 0, .int .i64 0, .int .i64 0, .int .i64 0, .int .i64 0, .int .i64 0, .int .i64 0, .int .i64 0, .int .i64 0, .int .i64 0, .int .i64 0, .int .i64 0, .int .i64 0, .int .i64 0, .int .i64 0, .int .i64 0, .int .i64 0, .int .i64 0, .int .i64 0, .int .i64 0, .bool false, .bool false, .bool false, .bool false, .int .i64 0, .slice (some ⟨w.heap.size, 0, none⟩) m m] := by
    unfold cpuL newC
    rw [List.length_replicate]
    rfl
  rw [← hcl, hW0]
  have hb0 : Below w.heap.size w W0 := by rw [← hW0]; exact below_alloc (below_alloc (Below.refl _ _) _) _
  have hz0 : W0.heap.size = w.heap.size + 1 + 1 := by rw [← hW0]; simp
  have hO0 : COK W0 69 w.heap.size W0.heap.size (w.heap.size + 1) none 0 w.heap.size (newC [] m) := by
    refine ⟨.inl rfl, by omega, Nat.le_refl _, by omega, by omega, by omega, by simp [newC], by simp [newC]; omega, ?_, ?_, Kd.R_nil _ _ _ _ _⟩
    · rw [← hW0]
      have h := blk_new (w.alloc (.cells (madeCells #[Value.int .u8 0] m) 5)) (.cells (cpuL none 0 w.heap.size (newC [] m)).toArray 69)
      rw [World.size_alloc] at h
      exact h
    · rw [← hW0]
      have h := blk_alloc (blk_new w (.cells (madeCells #[Value.int .u8 0] m) 5)) (.cells (cpuL none 0 w.heap.size (newC [] m)).toArray 69)
      show _ = some (Obj.cells ((List.replicate m (0 : Int)).map (Value.int .u8)).toArray 5 (0, 0))
      rw [← made_cells]
      exact h
  have HB0 := Aside0.mk hb0
  have HO0 := Aside0.mk hO0
  clear hcl hW0 hb0 hz0 hO0 hmk
  go_loopw [28] (fun v28 wr => ∃ (k : Nat) (A : Option Addr) (c : Nat), v28 = .int .i64 k ∧ k ≤ ws.length ∧ COK wr 69 w.heap.size wr.heap.size (w.heap.size + 1) A c w.heap.size (newC (ws.take k) m) ∧ Below w.heap.size w wr) (fun v28 _ => ws.length - (intOf v28).toNat)
  case atStart => exact ⟨0, none, 0, rfl, Nat.zero_le _, HO0.out, HB0.out⟩
  case round =>
    obtain ⟨k, A, c, rfl, hk, hO, hB⟩ := hrel
    have HO := Aside0.mk hO
    have HB := Aside0.mk hB
    by_cases hlt : k < ws.length
    · obtain ⟨ad, rfl, hcw⟩ := Kd.at_int (Kd.C_below HR0.out hB) (k : Int) (by omega) (by omega)
      rw [Int.toNat_natCast] at hcw
      obtain ⟨u, hu⟩ : ∃ u, u = rd ws (k : Int) := ⟨_, rfl⟩
      rw [← hu] at hcw
      have HU := Aside0.mk hu
      have hdr := dcd_run u
      unfold insA at hdr
      obtain ⟨⟨x, e⟩, hx⟩ : ∃ d, d = dcd u := ⟨_, rfl⟩
      rw [← hx] at hdr
      dsimp only at hdr
      have HX0 := Aside0.mk (show x = (dcd u).1 by rw [← hx])
      have HD := Aside0.mk hdr
      have hux := Try.underlying61
      clear hO hB hu hx hdr
      go_wp2_with fail
      refine (HD.out _).mono ?_
      rintro e1 w2 ⟨rfl, hb2⟩
      have HB2 := Aside0.mk hb2
      clear hb2
      go_wp2_with fail
      have hO3 := (HO.out.below HB2.out).below (below_alloc (Below.refl w2.heap.size w2) (.cells #[.int .i64 x.f0, .int .i64 x.f1, .int .i64 x.f2, .int .i64 x.f3, .int .i64 x.f4, .int .i64 x.f5, .int .i64 x.f6, .int .i64 x.f7] 61))
      have hg3 := blk_new w2 (.cells #[.int .i64 x.f0, .int .i64 x.f1, .int .i64 x.f2, .int .i64 x.f3, .int .i64 x.f4, .int .i64 x.f5, .int .i64 x.f6, .int .i64 x.f7] 61)
      have hB3 := below_alloc (below_step HB.out HB2.out) (.cells #[.int .i64 x.f0, .int .i64 x.f1, .int .i64 x.f2, .int .i64 x.f3, .int .i64 x.f4, .int .i64 x.f5, .int .i64 x.f6, .int .i64 x.f7] 61)
      obtain ⟨W3, hW3⟩ : ∃ W3, w2.alloc (.cells #[.int .i64 x.f0, .int .i64 x.f1, .int .i64 x.f2, .int .i64 x.f3, .int .i64 x.f4, .int .i64 x.f5, .int .i64 x.f6, .int .i64 x.f7] 61) = W3 := ⟨_, rfl⟩
      obtain ⟨g3, hgg⟩ : ∃ g3, w2.heap.size = g3 := ⟨_, rfl⟩
      rw [hW3] at hO3 hg3 hB3
      rw [hgg] at hg3
      go_upto_region 10 with (fail)
      rw [hW3, hgg]
      have q0 := hO3.c0
      have x0 : W3.cell? ⟨g3, 0, none⟩ = some (.int .i64 x.f0) := blk_cell hg3 0
      have x1 : W3.cell? ⟨g3, 1, none⟩ = some (.int .i64 x.f1) := blk_cell hg3 1
      have x2 : W3.cell? ⟨g3, 2, none⟩ = some (.int .i64 x.f2) := blk_cell hg3 2
      have x3 : W3.cell? ⟨g3, 3, none⟩ = some (.int .i64 x.f3) := blk_cell hg3 3
      have x4 : W3.cell? ⟨g3, 4, none⟩ = some (.int .i64 x.f4) := blk_cell hg3 4
      have x5 : W3.cell? ⟨g3, 5, none⟩ = some (.int .i64 x.f5) := blk_cell hg3 5
      have x6 : W3.cell? ⟨g3, 6, none⟩ = some (.int .i64 x.f6) := blk_cell hg3 6
      have x7 : W3.cell? ⟨g3, 7, none⟩ = some (.int .i64 x.f7) := blk_cell hg3 7
      have hkw : (newC (ws.take k) m).ws.length = k := by simp [newC]; omega
      rw [hkw] at q0
      have hown := hO3.own
      rw [hkw] at hown
      have HOW := Aside0.mk (Kd.R_mono hown (fun b (hb : b ≠ w.heap.size + 1 ∧ b ≠ w.heap.size ∧ b < wr.heap.size) => (⟨hb.1, hb.2.1⟩ : b ≠ w.heap.size + 1 ∧ b ≠ w.heap.size)))
      have hnp : some (w.heap.size + 1) ≠ (Value.slice A k c).ownBlock := fun e => ((HOW.out).1 _ e.symm).1 rfl
      have hnm : some w.heap.size ≠ (Value.slice A k c).ownBlock := fun e => ((HOW.out).1 _ e.symm).2 rfl
      have hng : some g3 ≠ (Value.slice A k c).ownBlock := fun e => by have h1 := (hown.1 _ e.symm).2.2; have h2 := HB2.out.size; omega
      have HNP := Aside0.mk (And.intro hnp (And.intro hnm hng))
      have HG3 := Aside0.mk hg3
      have HKW := Aside0.mk hkw
      have HO3 := Aside0.mk hO3
      have HB3 := Aside0.mk hB3
      have hwz : w.heap.size + 1 < W3.heap.size := hO3.lt
      have HWZ := Aside0.mk hwz
      clear hO3 hB3 hg3 hkw hown hnp hnm
      go_region_law (refine Kd.R_append_rows_step k61 (Rr := fun y cs => cs = insL y) (w0 := w) w.heap.size rfl (.tmp 41) (.tmp 43) 47 61 (.agg #[.int .i64 0, .int .i64 0, .int .i64 0, .int .i64 0, .int .i64 0, .int .i64 0, .int .i64 0, .int .i64 0]) 64 rfl Try.underlying47 (by kernel_rfl) rfl (by decide) (by decide) (.slice A k c) (newC (ws.take k) m).ws [x] (some ⟨W3.heap.size, 0, none⟩) 1 1 (fun b => b ≠ w.heap.size + 1 ∧ b ≠ w.heap.size) (fun _ => False) ?h1 ?h2 ?aO ?aR ?ak (fun _ hk => hk.elim) ?af ?aB ?aS ?aL ?_; (case h1 => first | rfl | simp [Act.eval, Act.put]); (case h2 => first | rfl | simp [Act.eval, Act.put]); (case aO => (with_reducible repeat (first | apply Kd.R_drewN | apply Kd.R_drew | apply Kd.R_alloc)); exact HOW.out); (case aR => exact row_one (by (with_reducible repeat (first | apply blk_drewN | apply blk_drew)); exact blk_new W3 _)); (case ak => intro y cs hy; rw [hy]; exact k61_mkM _ _ _ y); (case af => intro b hb; have hq : W3.heap.size ≤ b := Nat.le_trans (below_size (by repeat (first | exact Below.refl _ _ | apply below_alloc | apply pw_below_drewN | apply below_drew1))) hb; have := HWZ.out; constructor <;> omega); (case aB => exact (by repeat (first | (with_reducible first | exact HB3.out | apply below_alloc | apply pw_below_drewN | apply below_drew1) | exact HB3.out))); (case aS => exact below_size (by repeat (first | (with_reducible first | exact HB3.out | apply below_alloc | apply pw_below_drewN | apply below_drew1) | exact HB3.out))); (case aL => rw [HKW.out]; omega); intro v1 w1 ho hb1 hg hat; have hbp := blk_grown (by (with_reducible repeat (first | apply blk_drewN | apply blk_drew | apply blk_alloc)); exact HO3.out.blk) hg HNP.out.1; have hbm := blk_grown (by (with_reducible repeat (first | apply blk_drewN | apply blk_drew | apply blk_alloc)); exact HO3.out.mem) hg HNP.out.2.1; have hbg := blk_grown (by (with_reducible repeat (first | apply blk_drewN | apply blk_drew | apply blk_alloc)); exact HG3.out) hg HNP.out.2.2; have g0 : w1.cell? ⟨w.heap.size + 1, 0, none⟩ = some (.slice A k c) := (by rw [blk_cell hbp 0]; show some (Value.slice A (newC (ws.take k) m).ws.length c) = _; rw [HKW.out]); have y0 : w1.cell? ⟨g3, 0, none⟩ = some (.int .i64 x.f0) := blk_cell hbg 0; have y1 : w1.cell? ⟨g3, 1, none⟩ = some (.int .i64 x.f1) := blk_cell hbg 1; have y2 : w1.cell? ⟨g3, 2, none⟩ = some (.int .i64 x.f2) := blk_cell hbg 2; have y3 : w1.cell? ⟨g3, 3, none⟩ = some (.int .i64 x.f3) := blk_cell hbg 3; have y4 : w1.cell? ⟨g3, 4, none⟩ = some (.int .i64 x.f4) := blk_cell hbg 4; have y5 : w1.cell? ⟨g3, 5, none⟩ = some (.int .i64 x.f5) := blk_cell hbg 5; have y6 : w1.cell? ⟨g3, 6, none⟩ = some (.int .i64 x.f6) := blk_cell hbg 6; have y7 : w1.cell? ⟨g3, 7, none⟩ = some (.int .i64 x.f7) := blk_cell hbg 7; have f0 := blk_frozen hbp 0; obtain ⟨A1, c1, hv1⟩ := Kd.R_slice ho; subst hv1; have HX := Aside0.mk (And.intro ho (And.intro hbp (And.intro hbm hb1))); clear ho hbp hbm hbg hb1 hg hat)
      all_goals (
        go_wp2_with fail
        go_roundw
        case rel =>
          refine ⟨k + 1, A1, c1, by go_num, by omega, ?_, HX.out.2.2.2.setCell (p := ⟨w.heap.size + 1, 0, none⟩) (by show w.heap.size ≤ w.heap.size + 1; omega) _⟩
          exact new_grown w1 w.heap.size A c A1 c1 ws k m x hlt (by rw [← HU.out, ← HX0.out]) (by have h := HX.out.1; rw [List.length_append] at h; exact h) HX.out.2.1 HX.out.2.2.1 (by omega)
        case measure => simp [intOf]; omega)
    · obtain rfl : k = ws.length := by omega
      rw [List.take_length] at hO
      have HO1 := Aside0.mk hO
      clear hO hB
      go_wp2_with fail
      go_ret2
      exact ⟨_, A, c, _, rfl, HO1.out, HB.out⟩
/-- Too many words. -/
theorem new_long (w : World) (A0 : Option Addr) (c0 n : Nat) (m : Int) (hl : 65536 < n) :
    Calls Try.prog 16 #[.slice A0 n c0, .int .i64 m] w fun e w' => e = .returned (.tuple #[.pointer none, .int .i64 3]) ∧ w' = w := by
  have h1 : (n : Int) > 65536 := by omega
  go_enter Try.func16, Try.ntmps16
  go_wp2_with fail
  go_ret2
  exact ⟨rfl, rfl⟩
/-- No such memory. -/
theorem new_arg (w : World) (A0 : Option Addr) (c0 n : Nat) (m : Int) (hl : n ≤ 65536) (hm : m < 0 ∨ 65536 < m) :
    Calls Try.prog 16 #[.slice A0 n c0, .int .i64 m] w fun e w' => e = .returned (.tuple #[.pointer none, .int .i64 1]) ∧ w' = w := by
  have h1 : ¬ (n : Int) > 65536 := by omega
  by_cases h2 : m < 0
  · go_enter Try.func16, Try.ntmps16
    go_wp2_with fail
    go_ret2
    exact ⟨rfl, rfl⟩
  · have h3 : m > 65536 := by omega
    go_enter Try.func16, Try.ntmps16
    go_wp2_with fail
    go_ret2
    exact ⟨rfl, rfl⟩
end Go.Proofs.Ytjhgbddcenhkfaa.P

set_option linter.unusedVariables false
set_option linter.unusedSimpArgs false
namespace Go.Proofs.Ytjhgbddcenhkfaa.P
open Go.RowKit Go.Proofs.YtjhgbddcenhkfaaW.PrintWords Go.Proofs.YtjhgbddcenhkfaaW.PrintLast
theorem lay_get (m : List Int) (j : Nat) (v : Int) : ∀ (n k : Nat), j + n ≤ m.length → k < n → (lay m j v n)[j + k]? = some (v / 2 ^ (8 * k) % 256)
  | 0, k, _, hk => by omega
  | n + 1, k, h, hk => by
    rw [lay]
    by_cases he : k = n
    · subst he
      rw [List.getElem?_set_self (by rw [lay_length]; omega)]
    · rw [List.getElem?_set_ne (by omega)]
      exact lay_get m j v n k (by omega) (by omega)
theorem rdB_wr (s : CS) (j : Nat) (v : Int) (h : j + 8 ≤ s.m.length) : rdB { s with m := lay s.m j v 8 } j = leB v 8 := by
  unfold rdB
  apply List.ext_getElem?
  intro k
  by_cases hk : k < 8
  · rw [List.getElem?_take_of_lt hk, List.getElem?_drop, lay_get s.m j v 8 k h hk]
    unfold leB
    rw [List.getElem?_map, List.getElem?_range hk]
    rfl
  · rw [List.getElem?_eq_none (by rw [List.length_take]; omega), List.getElem?_eq_none (by rw [leB_length]; omega)]
theorem emod_mul (v P : Int) (hP : 0 < P) : v % P + P * (v / P % 256) = v % (P * 256) := by
  have h1 := Int.emod_add_mul_ediv v P
  have h2 := Int.emod_add_mul_ediv (v / P) 256
  obtain ⟨q, hq⟩ : ∃ q, q = v / P := ⟨_, rfl⟩
  rw [← hq] at h1 h2 ⊢
  have h3 : v = (v % P + P * (q % 256)) + (P * 256) * (q / 256) := by
    have h4 : P * q = P * (q % 256) + P * (256 * (q / 256)) := by rw [← Int.mul_add, h2]
    rw [← Int.mul_assoc] at h4
    omega
  have h5 : 0 ≤ v % P := Int.emod_nonneg _ (by omega)
  have h6 : v % P < P := Int.emod_lt_of_pos _ hP
  have h7 : 0 ≤ P * (q % 256) := Int.mul_nonneg (by omega) (by omega)
  have h8 : P * (q % 256) ≤ P * 255 := Int.mul_le_mul_of_nonneg_left (by omega) (by omega)
  have h9 := Int.add_mul_emod_self_left (v % P + P * (q % 256)) (P * 256) (q / 256)
  rw [← h3] at h9
  rw [h9]
  obtain ⟨a, ha⟩ : ∃ a, a = v % P := ⟨_, rfl⟩
  obtain ⟨b, hb⟩ : ∃ b, b = P * (q % 256) := ⟨_, rfl⟩
  rw [← ha] at h5 h6 ⊢
  rw [← hb] at h7 h8 ⊢
  exact (Int.emod_eq_of_lt (by omega) (by omega)).symm
theorem leN_leB (v : Int) : ∀ n, leN (leB v n) = v % 256 ^ n
  | 0 => by simp [leB, leN, Int.emod_one]
  | n + 1 => by
    rw [leB_succ, leN_snoc, leN_leB v n, leB_length, ← pow8, Int.pow_succ]
    exact emod_mul v _ (Int.pow_pos (by decide))
theorem rd_wr (s : CS) (i v : Int) (h : mayM s i = true) (h0 : -9223372036854775808 ≤ v) (h1 : v < 9223372036854775808) : rdM (wrM s i v) i = v := by
  obtain ⟨j, rfl, hj8, hjl⟩ := mayM_nat h
  have hw : wrM s (j : Int) v = { s with m := lay s.m j v 8 } := by unfold wrM; rw [if_pos h, Int.toNat_natCast]
  have hm : mayM (wrM s (j : Int) v) (j : Int) = true := by
    rw [hw]
    unfold mayM at h ⊢
    rw [show ({ s with m := lay s.m j v 8 } : CS).m = lay s.m j v 8 from rfl, lay_length]
    exact h
  unfold rdM
  rw [if_pos hm, Int.toNat_natCast, hw, rdB_wr s j v hjl, leN_leB]
  unfold wrap64
  rw [show (256 : Int) ^ 8 = 18446744073709551616 from by decide]
  omega
theorem mayM_wr (s : CS) (i v k : Int) : mayM (wrM s i v) k = mayM s k := by
  unfold wrM
  split
  · unfold mayM
    rw [show ({ s with m := lay s.m i.toNat v 8 } : CS).m = lay s.m i.toNat v 8 from rfl, lay_length]
  · rfl
theorem leN_zeros : ∀ (l : List Int), (∀ y ∈ l, y = 0) → leN l = 0
  | [], _ => rfl
  | a :: l, h => by rw [leN, h a (List.mem_cons_self ..), leN_zeros l (fun y hy => h y (List.mem_cons_of_mem _ hy))]; rfl
theorem rd_zeros (s : CS) (i : Int) (h : ∀ y ∈ s.m, y = 0) : rdM s i = 0 := by
  unfold rdM
  split
  · rw [leN_zeros (rdB s i.toNat) (fun y hy => h y (List.mem_of_mem_drop (List.mem_of_mem_take hy)))]
    unfold wrap64
    decide
  · rfl
end Go.Proofs.Ytjhgbddcenhkfaa.P
