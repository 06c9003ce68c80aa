/- The words of A64's instructions as sums of their fields: plain arithmetic over what the walk of encode.Encode comes to; no statement of the seat. -/
import Derived.Test.YtndedmkjmahohaaPF34
set_option linter.unusedVariables false
set_option linter.unusedSimpArgs false
namespace Go.Proofs.Ytndedmkjmahohaa.A64
open Go.RowKit Go.Proofs.Ytndedmkjmahohaa.P Go.Proofs.YtndedmkjmahohaaW.PrintWords

theorem or_add (hi lo v s i : Nat) (hlo : lo < 2 ^ i) (hv : v < 2 ^ s) : (2 ^ (i + s) * hi + lo) ||| (2 ^ i * v) = 2 ^ (i + s) * hi + lo + 2 ^ i * v := by
  have hb : 2 ^ i * v + lo < 2 ^ (i + s) := by
    rw [Nat.pow_add]
    have h1 : v + 1 ≤ 2 ^ s := hv
    have h2 := Nat.mul_le_mul_left (2 ^ i) h1
    rw [Nat.mul_add, Nat.mul_one] at h2
    omega
  have hl : lo < 2 ^ (i + s) := by omega
  rw [Nat.two_pow_add_eq_or_of_lt hl hi, Nat.or_assoc, Nat.or_comm lo, ← Nat.two_pow_add_eq_or_of_lt hlo v, ← Nat.two_pow_add_eq_or_of_lt hb hi]
  rw [← Nat.two_pow_add_eq_or_of_lt hl hi]
  omega
theorem or32 (W Y : Int) (s i : Nat) (h0 : 0 ≤ W) (h1 : W < 4294967296) (hl : W % (2 ^ (i + s) : Nat) < (2 ^ i : Nat)) (v : Nat) (hv : v < 2 ^ s) (hY : Y = ((2 ^ i * v : Nat) : Int)) (hY2 : Y < 4294967296) (hS : W + Y < 4294967296) :
    bits .or .u32 W Y = W + Y := by
  obtain ⟨a, rfl⟩ := Int.eq_ofNat_of_zero_le h0
  subst hY
  have ha : a < 2 ^ 32 := by omega
  have hb : 2 ^ i * v < 2 ^ 32 := by omega
  have hw : ∀ n : Int, 0 ≤ n → n < 2 ^ 32 → IntKind.u32.wrap n = n := fun n h0 h1 => by rw [IntKind.wrap_u32]; omega
  rw [(bits_nat .u32 32 (by decide) hw a (2 ^ i * v) ha hb).2]
  have hl' : a % 2 ^ (i + s) < 2 ^ i := by exact_mod_cast hl
  have hd := Nat.div_add_mod a (2 ^ (i + s))
  have key := or_add (a / 2 ^ (i + s)) (a % 2 ^ (i + s)) v s i hl' hv
  rw [hd] at key
  rw [key]
  push_cast
  rfl
theorem and_mask (x m : Int) (s : Nat) (hs : s ≤ 32) (h0 : 0 ≤ x) (h1 : x < 4294967296) (hm : m = 2 ^ s - 1) : bits .and .u32 x m = x % 2 ^ s := by
  rw [hm]
  exact bits_mask .u32 32 (by decide) (fun n h0 h1 => by rw [IntKind.wrap_u32]; omega) s hs x h0 (by omega)
/-- A field that fits is added. -/
theorem enc_or_add (W v m : Int) (s i : Nat) (hm : m = 2 ^ s - 1) (hm2 : m < 4294967296) (hi : i ≤ 31) (hs : s ≤ 31) (h0 : 0 ≤ W) (h1 : W < 4294967296) (hl : W % (2 ^ (i + s) : Nat) < (2 ^ i : Nat)) (hv0 : 0 ≤ v) (hv : v ≤ m) (hS : W + 2 ^ i * v < 4294967296) :
    enc_or W v (m - 0) i = W + 2 ^ i * v := by
  have hw : wrap64 (m - 0) % 4294967296 = m := by unfold wrap64; omega
  have hv2 : v % 4294967296 = v := by omega
  have hx : bits .and .u32 v m = v := by
    rw [and_mask v m s (by omega) hv0 (by omega) hm, Int.emod_eq_of_lt hv0 (by omega)]
  obtain ⟨n, rfl⟩ := Int.eq_ofNat_of_zero_le hv0
  have hn : n < 2 ^ s := by
    have : (n : Int) < 2 ^ s := by omega
    exact_mod_cast this
  have hc : ((2 : Int) ^ i * (n : Int)) = ((2 ^ i * n : Nat) : Int) := by push_cast; rfl
  have hlt : ((n : Int) * 2 ^ min ((i : Int)).toNat 32) % 4294967296 = 2 ^ i * (n : Int) := by
    have hmn : min ((i : Int)).toNat 32 = i := by omega
    rw [hmn, Int.mul_comm, hc]
    rw [hc] at hS
    omega
  unfold enc_or
  rw [hw, hv2, hx, hlt]
  exact or32 W _ s i h0 h1 hl n hn hc (by omega) hS
-- GROUPS
theorem enc_or26_add (W v : Int) (h0 : 0 ≤ W) (h1 : W + 67108863 < 4294967296) (hl : W % 67108864 = 0) : enc_or26 W v = W + v % 67108864 := by
  have h : bits .and .u32 (v % 4294967296) 67108863 = v % 67108864 := by rw [and_mask _ _ 26 (by decide) (by omega) (by omega) (by decide)]; omega
  unfold enc_or26
  rw [h, show v % 67108864 % 4294967296 = v % 67108864 from by omega]
  obtain ⟨n, hn⟩ := Int.eq_ofNat_of_zero_le (show 0 ≤ v % 67108864 from by omega)
  exact or32 W _ 26 0 h0 (by omega) (by simp only [Nat.reduceAdd, Nat.reducePow]; omega) n (by omega) (by rw [hn]; simp) (by omega) (by omega)
theorem enc_or19_add (W v : Int) (h0 : 0 ≤ W) (h1 : W + 32 * 524287 < 4294967296) (hl : W % 16777216 < 32) : enc_or19 W v = W + 32 * (v % 524288) := by
  have h : bits .and .u32 (v % 4294967296) 524287 = v % 524288 := by rw [and_mask _ _ 19 (by decide) (by omega) (by omega) (by decide)]; omega
  unfold enc_or19
  rw [h, show v % 524288 * 32 % 4294967296 = 32 * (v % 524288) from by omega]
  obtain ⟨n, hn⟩ := Int.eq_ofNat_of_zero_le (show 0 ≤ v % 524288 from by omega)
  exact or32 W _ 19 5 h0 (by omega) (by simp only [Nat.reduceAdd, Nat.reducePow]; omega) n (by omega) (by rw [hn]; simp) (by omega) (by omega)
/-- Group RI: ops [4, 5, 6, 19, 20]. -/
def CRI (rd rn rm ra imm shift cond : Int) : Prop := 0 ≤ rd ∧ rd ≤ 31 ∧ 0 ≤ rn ∧ rn ≤ 31 ∧ 0 ≤ imm ∧ imm ≤ 4095 ∧ rm = 0 ∧ ra = 0 ∧ shift = 0 ∧ cond = 0
def VRI (base rd rn rm ra imm shift cond : Int) : Int := base + rd + 32 * rn + 1024 * imm
theorem cleanRI (base op rd rn rm ra imm shift cond : Int) : (let s : Mk := ⟨base, op, rd, rn, rm, ra, imm, shift, cond, true⟩; (s.regs true true false).putImm 4095 10).clean = true ↔ CRI rd rn rm ra imm shift cond := by
  simp only [CRI, Mk.clean, Mk.regs, Mk.putRd, Mk.putRn, Mk.putRm, Mk.putRa, Mk.putImm, Mk.putShift, Mk.putCond, Mk.put26, Mk.put19, Mk.ok, Mk.okS, if_true, if_false, Bool.false_eq_true, Bool.true_and, Bool.and_eq_true, decide_eq_true_eq, decide_true, and_true, true_and]
  all_goals (constructor <;> (intro h; omega))
theorem val4 (op rd rn rm ra imm shift cond : Int) (h : CRI rd rn rm ra imm shift cond) : (let s : Mk := ⟨2432696320, op, rd, rn, rm, ra, imm, shift, cond, true⟩; (s.regs true true false).putImm 4095 10).W = VRI 2432696320 rd rn rm ra imm shift cond := by
  simp only [CRI] at h
  simp only [VRI, Mk.regs, Mk.putRd, Mk.putRn, Mk.putRm, Mk.putRa, Mk.putImm, Mk.putShift, Mk.putCond, Mk.put26, Mk.put19, if_true, if_false, Bool.false_eq_true]
  rw [show enc_or (2432696320) rd (31 - 0) 0 = 2432696320 + rd from (enc_or_add (2432696320) rd 31 5 0 (by decide) (by decide) (by decide) (by decide) (by omega) (by omega) (by simp only [Nat.reduceAdd, Nat.reducePow]; omega) (by omega) (by omega) (by omega)).trans (by omega)]
  rw [show enc_or (2432696320 + rd) rn (31 - 0) 5 = 2432696320 + rd + 32 * rn from (enc_or_add (2432696320 + rd) rn 31 5 5 (by decide) (by decide) (by decide) (by decide) (by omega) (by omega) (by simp only [Nat.reduceAdd, Nat.reducePow]; omega) (by omega) (by omega) (by omega)).trans (by omega)]
  rw [show enc_or (2432696320 + rd + 32 * rn) imm (4095 - 0) 10 = 2432696320 + rd + 32 * rn + 1024 * imm from (enc_or_add (2432696320 + rd + 32 * rn) imm 4095 12 10 (by decide) (by decide) (by decide) (by decide) (by omega) (by omega) (by simp only [Nat.reduceAdd, Nat.reducePow]; omega) (by omega) (by omega) (by omega)).trans (by omega)]
theorem val5 (op rd rn rm ra imm shift cond : Int) (h : CRI rd rn rm ra imm shift cond) : (let s : Mk := ⟨3506438144, op, rd, rn, rm, ra, imm, shift, cond, true⟩; (s.regs true true false).putImm 4095 10).W = VRI 3506438144 rd rn rm ra imm shift cond := by
  simp only [CRI] at h
  simp only [VRI, Mk.regs, Mk.putRd, Mk.putRn, Mk.putRm, Mk.putRa, Mk.putImm, Mk.putShift, Mk.putCond, Mk.put26, Mk.put19, if_true, if_false, Bool.false_eq_true]
  rw [show enc_or (3506438144) rd (31 - 0) 0 = 3506438144 + rd from (enc_or_add (3506438144) rd 31 5 0 (by decide) (by decide) (by decide) (by decide) (by omega) (by omega) (by simp only [Nat.reduceAdd, Nat.reducePow]; omega) (by omega) (by omega) (by omega)).trans (by omega)]
  rw [show enc_or (3506438144 + rd) rn (31 - 0) 5 = 3506438144 + rd + 32 * rn from (enc_or_add (3506438144 + rd) rn 31 5 5 (by decide) (by decide) (by decide) (by decide) (by omega) (by omega) (by simp only [Nat.reduceAdd, Nat.reducePow]; omega) (by omega) (by omega) (by omega)).trans (by omega)]
  rw [show enc_or (3506438144 + rd + 32 * rn) imm (4095 - 0) 10 = 3506438144 + rd + 32 * rn + 1024 * imm from (enc_or_add (3506438144 + rd + 32 * rn) imm 4095 12 10 (by decide) (by decide) (by decide) (by decide) (by omega) (by omega) (by simp only [Nat.reduceAdd, Nat.reducePow]; omega) (by omega) (by omega) (by omega)).trans (by omega)]
theorem val6 (op rd rn rm ra imm shift cond : Int) (h : CRI rd rn rm ra imm shift cond) : (let s : Mk := ⟨4043309056, op, rd, rn, rm, ra, imm, shift, cond, true⟩; (s.regs true true false).putImm 4095 10).W = VRI 4043309056 rd rn rm ra imm shift cond := by
  simp only [CRI] at h
  simp only [VRI, Mk.regs, Mk.putRd, Mk.putRn, Mk.putRm, Mk.putRa, Mk.putImm, Mk.putShift, Mk.putCond, Mk.put26, Mk.put19, if_true, if_false, Bool.false_eq_true]
  rw [show enc_or (4043309056) rd (31 - 0) 0 = 4043309056 + rd from (enc_or_add (4043309056) rd 31 5 0 (by decide) (by decide) (by decide) (by decide) (by omega) (by omega) (by simp only [Nat.reduceAdd, Nat.reducePow]; omega) (by omega) (by omega) (by omega)).trans (by omega)]
  rw [show enc_or (4043309056 + rd) rn (31 - 0) 5 = 4043309056 + rd + 32 * rn from (enc_or_add (4043309056 + rd) rn 31 5 5 (by decide) (by decide) (by decide) (by decide) (by omega) (by omega) (by simp only [Nat.reduceAdd, Nat.reducePow]; omega) (by omega) (by omega) (by omega)).trans (by omega)]
  rw [show enc_or (4043309056 + rd + 32 * rn) imm (4095 - 0) 10 = 4043309056 + rd + 32 * rn + 1024 * imm from (enc_or_add (4043309056 + rd + 32 * rn) imm 4095 12 10 (by decide) (by decide) (by decide) (by decide) (by omega) (by omega) (by simp only [Nat.reduceAdd, Nat.reducePow]; omega) (by omega) (by omega) (by omega)).trans (by omega)]
theorem val19 (op rd rn rm ra imm shift cond : Int) (h : CRI rd rn rm ra imm shift cond) : (let s : Mk := ⟨4181721088, op, rd, rn, rm, ra, imm, shift, cond, true⟩; (s.regs true true false).putImm 4095 10).W = VRI 4181721088 rd rn rm ra imm shift cond := by
  simp only [CRI] at h
  simp only [VRI, Mk.regs, Mk.putRd, Mk.putRn, Mk.putRm, Mk.putRa, Mk.putImm, Mk.putShift, Mk.putCond, Mk.put26, Mk.put19, if_true, if_false, Bool.false_eq_true]
  rw [show enc_or (4181721088) rd (31 - 0) 0 = 4181721088 + rd from (enc_or_add (4181721088) rd 31 5 0 (by decide) (by decide) (by decide) (by decide) (by omega) (by omega) (by simp only [Nat.reduceAdd, Nat.reducePow]; omega) (by omega) (by omega) (by omega)).trans (by omega)]
  rw [show enc_or (4181721088 + rd) rn (31 - 0) 5 = 4181721088 + rd + 32 * rn from (enc_or_add (4181721088 + rd) rn 31 5 5 (by decide) (by decide) (by decide) (by decide) (by omega) (by omega) (by simp only [Nat.reduceAdd, Nat.reducePow]; omega) (by omega) (by omega) (by omega)).trans (by omega)]
  rw [show enc_or (4181721088 + rd + 32 * rn) imm (4095 - 0) 10 = 4181721088 + rd + 32 * rn + 1024 * imm from (enc_or_add (4181721088 + rd + 32 * rn) imm 4095 12 10 (by decide) (by decide) (by decide) (by decide) (by omega) (by omega) (by simp only [Nat.reduceAdd, Nat.reducePow]; omega) (by omega) (by omega) (by omega)).trans (by omega)]
theorem val20 (op rd rn rm ra imm shift cond : Int) (h : CRI rd rn rm ra imm shift cond) : (let s : Mk := ⟨4177526784, op, rd, rn, rm, ra, imm, shift, cond, true⟩; (s.regs true true false).putImm 4095 10).W = VRI 4177526784 rd rn rm ra imm shift cond := by
  simp only [CRI] at h
  simp only [VRI, Mk.regs, Mk.putRd, Mk.putRn, Mk.putRm, Mk.putRa, Mk.putImm, Mk.putShift, Mk.putCond, Mk.put26, Mk.put19, if_true, if_false, Bool.false_eq_true]
  rw [show enc_or (4177526784) rd (31 - 0) 0 = 4177526784 + rd from (enc_or_add (4177526784) rd 31 5 0 (by decide) (by decide) (by decide) (by decide) (by omega) (by omega) (by simp only [Nat.reduceAdd, Nat.reducePow]; omega) (by omega) (by omega) (by omega)).trans (by omega)]
  rw [show enc_or (4177526784 + rd) rn (31 - 0) 5 = 4177526784 + rd + 32 * rn from (enc_or_add (4177526784 + rd) rn 31 5 5 (by decide) (by decide) (by decide) (by decide) (by omega) (by omega) (by simp only [Nat.reduceAdd, Nat.reducePow]; omega) (by omega) (by omega) (by omega)).trans (by omega)]
  rw [show enc_or (4177526784 + rd + 32 * rn) imm (4095 - 0) 10 = 4177526784 + rd + 32 * rn + 1024 * imm from (enc_or_add (4177526784 + rd + 32 * rn) imm 4095 12 10 (by decide) (by decide) (by decide) (by decide) (by omega) (by omega) (by simp only [Nat.reduceAdd, Nat.reducePow]; omega) (by omega) (by omega) (by omega)).trans (by omega)]
/-- Group R4: ops [11, 12]. -/
def CR4 (rd rn rm ra imm shift cond : Int) : Prop := 0 ≤ rd ∧ rd ≤ 31 ∧ 0 ≤ rn ∧ rn ≤ 31 ∧ 0 ≤ rm ∧ rm ≤ 31 ∧ 0 ≤ ra ∧ ra ≤ 31 ∧ imm = 0 ∧ shift = 0 ∧ cond = 0
def VR4 (base rd rn rm ra imm shift cond : Int) : Int := base + rd + 32 * rn + 65536 * rm + 1024 * ra
theorem cleanR4 (base op rd rn rm ra imm shift cond : Int) : (let s : Mk := ⟨base, op, rd, rn, rm, ra, imm, shift, cond, true⟩; (s.regs true true true).putRa 31 10).clean = true ↔ CR4 rd rn rm ra imm shift cond := by
  simp only [CR4, Mk.clean, Mk.regs, Mk.putRd, Mk.putRn, Mk.putRm, Mk.putRa, Mk.putImm, Mk.putShift, Mk.putCond, Mk.put26, Mk.put19, Mk.ok, Mk.okS, if_true, if_false, Bool.false_eq_true, Bool.true_and, Bool.and_eq_true, decide_eq_true_eq, decide_true, and_true, true_and]
  all_goals (constructor <;> (intro h; omega))
theorem val11 (op rd rn rm ra imm shift cond : Int) (h : CR4 rd rn rm ra imm shift cond) : (let s : Mk := ⟨2600468480, op, rd, rn, rm, ra, imm, shift, cond, true⟩; (s.regs true true true).putRa 31 10).W = VR4 2600468480 rd rn rm ra imm shift cond := by
  simp only [CR4] at h
  simp only [VR4, Mk.regs, Mk.putRd, Mk.putRn, Mk.putRm, Mk.putRa, Mk.putImm, Mk.putShift, Mk.putCond, Mk.put26, Mk.put19, if_true, if_false, Bool.false_eq_true]
  rw [show enc_or (2600468480) rd (31 - 0) 0 = 2600468480 + rd from (enc_or_add (2600468480) rd 31 5 0 (by decide) (by decide) (by decide) (by decide) (by omega) (by omega) (by simp only [Nat.reduceAdd, Nat.reducePow]; omega) (by omega) (by omega) (by omega)).trans (by omega)]
  rw [show enc_or (2600468480 + rd) rn (31 - 0) 5 = 2600468480 + rd + 32 * rn from (enc_or_add (2600468480 + rd) rn 31 5 5 (by decide) (by decide) (by decide) (by decide) (by omega) (by omega) (by simp only [Nat.reduceAdd, Nat.reducePow]; omega) (by omega) (by omega) (by omega)).trans (by omega)]
  rw [show enc_or (2600468480 + rd + 32 * rn) rm (31 - 0) 16 = 2600468480 + rd + 32 * rn + 65536 * rm from (enc_or_add (2600468480 + rd + 32 * rn) rm 31 5 16 (by decide) (by decide) (by decide) (by decide) (by omega) (by omega) (by simp only [Nat.reduceAdd, Nat.reducePow]; omega) (by omega) (by omega) (by omega)).trans (by omega)]
  rw [show enc_or (2600468480 + rd + 32 * rn + 65536 * rm) ra (31 - 0) 10 = 2600468480 + rd + 32 * rn + 65536 * rm + 1024 * ra from (enc_or_add (2600468480 + rd + 32 * rn + 65536 * rm) ra 31 5 10 (by decide) (by decide) (by decide) (by decide) (by omega) (by omega) (by simp only [Nat.reduceAdd, Nat.reducePow]; omega) (by omega) (by omega) (by omega)).trans (by omega)]
theorem val12 (op rd rn rm ra imm shift cond : Int) (h : CR4 rd rn rm ra imm shift cond) : (let s : Mk := ⟨2600501248, op, rd, rn, rm, ra, imm, shift, cond, true⟩; (s.regs true true true).putRa 31 10).W = VR4 2600501248 rd rn rm ra imm shift cond := by
  simp only [CR4] at h
  simp only [VR4, Mk.regs, Mk.putRd, Mk.putRn, Mk.putRm, Mk.putRa, Mk.putImm, Mk.putShift, Mk.putCond, Mk.put26, Mk.put19, if_true, if_false, Bool.false_eq_true]
  rw [show enc_or (2600501248) rd (31 - 0) 0 = 2600501248 + rd from (enc_or_add (2600501248) rd 31 5 0 (by decide) (by decide) (by decide) (by decide) (by omega) (by omega) (by simp only [Nat.reduceAdd, Nat.reducePow]; omega) (by omega) (by omega) (by omega)).trans (by omega)]
  rw [show enc_or (2600501248 + rd) rn (31 - 0) 5 = 2600501248 + rd + 32 * rn from (enc_or_add (2600501248 + rd) rn 31 5 5 (by decide) (by decide) (by decide) (by decide) (by omega) (by omega) (by simp only [Nat.reduceAdd, Nat.reducePow]; omega) (by omega) (by omega) (by omega)).trans (by omega)]
  rw [show enc_or (2600501248 + rd + 32 * rn) rm (31 - 0) 16 = 2600501248 + rd + 32 * rn + 65536 * rm from (enc_or_add (2600501248 + rd + 32 * rn) rm 31 5 16 (by decide) (by decide) (by decide) (by decide) (by omega) (by omega) (by simp only [Nat.reduceAdd, Nat.reducePow]; omega) (by omega) (by omega) (by omega)).trans (by omega)]
  rw [show enc_or (2600501248 + rd + 32 * rn + 65536 * rm) ra (31 - 0) 10 = 2600501248 + rd + 32 * rn + 65536 * rm + 1024 * ra from (enc_or_add (2600501248 + rd + 32 * rn + 65536 * rm) ra 31 5 10 (by decide) (by decide) (by decide) (by decide) (by omega) (by omega) (by simp only [Nat.reduceAdd, Nat.reducePow]; omega) (by omega) (by omega) (by omega)).trans (by omega)]
/-- Group MV: ops [16, 17, 18]. -/
def CMV (rd rn rm ra imm shift cond : Int) : Prop := 0 ≤ rd ∧ rd ≤ 31 ∧ 0 ≤ imm ∧ imm ≤ 65535 ∧ 0 ≤ shift ∧ shift ≤ 3 ∧ rn = 0 ∧ rm = 0 ∧ ra = 0 ∧ cond = 0
def VMV (base rd rn rm ra imm shift cond : Int) : Int := base + rd + 32 * imm + 2097152 * shift
theorem cleanMV (base op rd rn rm ra imm shift cond : Int) : (let s : Mk := ⟨base, op, rd, rn, rm, ra, imm, shift, cond, true⟩; ((s.regs true false false).putImm 65535 5).putShift 3 21).clean = true ↔ CMV rd rn rm ra imm shift cond := by
  simp only [CMV, Mk.clean, Mk.regs, Mk.putRd, Mk.putRn, Mk.putRm, Mk.putRa, Mk.putImm, Mk.putShift, Mk.putCond, Mk.put26, Mk.put19, Mk.ok, Mk.okS, if_true, if_false, Bool.false_eq_true, Bool.true_and, Bool.and_eq_true, decide_eq_true_eq, decide_true, and_true, true_and]
  all_goals (constructor <;> (intro h; omega))
theorem val16 (op rd rn rm ra imm shift cond : Int) (h : CMV rd rn rm ra imm shift cond) : (let s : Mk := ⟨3531603968, op, rd, rn, rm, ra, imm, shift, cond, true⟩; ((s.regs true false false).putImm 65535 5).putShift 3 21).W = VMV 3531603968 rd rn rm ra imm shift cond := by
  simp only [CMV] at h
  simp only [VMV, Mk.regs, Mk.putRd, Mk.putRn, Mk.putRm, Mk.putRa, Mk.putImm, Mk.putShift, Mk.putCond, Mk.put26, Mk.put19, if_true, if_false, Bool.false_eq_true]
  rw [show enc_or (3531603968) rd (31 - 0) 0 = 3531603968 + rd from (enc_or_add (3531603968) rd 31 5 0 (by decide) (by decide) (by decide) (by decide) (by omega) (by omega) (by simp only [Nat.reduceAdd, Nat.reducePow]; omega) (by omega) (by omega) (by omega)).trans (by omega)]
  rw [show enc_or (3531603968 + rd) imm (65535 - 0) 5 = 3531603968 + rd + 32 * imm from (enc_or_add (3531603968 + rd) imm 65535 16 5 (by decide) (by decide) (by decide) (by decide) (by omega) (by omega) (by simp only [Nat.reduceAdd, Nat.reducePow]; omega) (by omega) (by omega) (by omega)).trans (by omega)]
  rw [show enc_or (3531603968 + rd + 32 * imm) shift (3 - 0) 21 = 3531603968 + rd + 32 * imm + 2097152 * shift from (enc_or_add (3531603968 + rd + 32 * imm) shift 3 2 21 (by decide) (by decide) (by decide) (by decide) (by omega) (by omega) (by simp only [Nat.reduceAdd, Nat.reducePow]; omega) (by omega) (by omega) (by omega)).trans (by omega)]
theorem val17 (op rd rn rm ra imm shift cond : Int) (h : CMV rd rn rm ra imm shift cond) : (let s : Mk := ⟨4068474880, op, rd, rn, rm, ra, imm, shift, cond, true⟩; ((s.regs true false false).putImm 65535 5).putShift 3 21).W = VMV 4068474880 rd rn rm ra imm shift cond := by
  simp only [CMV] at h
  simp only [VMV, Mk.regs, Mk.putRd, Mk.putRn, Mk.putRm, Mk.putRa, Mk.putImm, Mk.putShift, Mk.putCond, Mk.put26, Mk.put19, if_true, if_false, Bool.false_eq_true]
  rw [show enc_or (4068474880) rd (31 - 0) 0 = 4068474880 + rd from (enc_or_add (4068474880) rd 31 5 0 (by decide) (by decide) (by decide) (by decide) (by omega) (by omega) (by simp only [Nat.reduceAdd, Nat.reducePow]; omega) (by omega) (by omega) (by omega)).trans (by omega)]
  rw [show enc_or (4068474880 + rd) imm (65535 - 0) 5 = 4068474880 + rd + 32 * imm from (enc_or_add (4068474880 + rd) imm 65535 16 5 (by decide) (by decide) (by decide) (by decide) (by omega) (by omega) (by simp only [Nat.reduceAdd, Nat.reducePow]; omega) (by omega) (by omega) (by omega)).trans (by omega)]
  rw [show enc_or (4068474880 + rd + 32 * imm) shift (3 - 0) 21 = 4068474880 + rd + 32 * imm + 2097152 * shift from (enc_or_add (4068474880 + rd + 32 * imm) shift 3 2 21 (by decide) (by decide) (by decide) (by decide) (by omega) (by omega) (by simp only [Nat.reduceAdd, Nat.reducePow]; omega) (by omega) (by omega) (by omega)).trans (by omega)]
theorem val18 (op rd rn rm ra imm shift cond : Int) (h : CMV rd rn rm ra imm shift cond) : (let s : Mk := ⟨2457862144, op, rd, rn, rm, ra, imm, shift, cond, true⟩; ((s.regs true false false).putImm 65535 5).putShift 3 21).W = VMV 2457862144 rd rn rm ra imm shift cond := by
  simp only [CMV] at h
  simp only [VMV, Mk.regs, Mk.putRd, Mk.putRn, Mk.putRm, Mk.putRa, Mk.putImm, Mk.putShift, Mk.putCond, Mk.put26, Mk.put19, if_true, if_false, Bool.false_eq_true]
  rw [show enc_or (2457862144) rd (31 - 0) 0 = 2457862144 + rd from (enc_or_add (2457862144) rd 31 5 0 (by decide) (by decide) (by decide) (by decide) (by omega) (by omega) (by simp only [Nat.reduceAdd, Nat.reducePow]; omega) (by omega) (by omega) (by omega)).trans (by omega)]
  rw [show enc_or (2457862144 + rd) imm (65535 - 0) 5 = 2457862144 + rd + 32 * imm from (enc_or_add (2457862144 + rd) imm 65535 16 5 (by decide) (by decide) (by decide) (by decide) (by omega) (by omega) (by simp only [Nat.reduceAdd, Nat.reducePow]; omega) (by omega) (by omega) (by omega)).trans (by omega)]
  rw [show enc_or (2457862144 + rd + 32 * imm) shift (3 - 0) 21 = 2457862144 + rd + 32 * imm + 2097152 * shift from (enc_or_add (2457862144 + rd + 32 * imm) shift 3 2 21 (by decide) (by decide) (by decide) (by decide) (by omega) (by omega) (by simp only [Nat.reduceAdd, Nat.reducePow]; omega) (by omega) (by omega) (by omega)).trans (by omega)]
/-- Group CS: ops [21, 22]. -/
def CCS (rd rn rm ra imm shift cond : Int) : Prop := 0 ≤ rd ∧ rd ≤ 31 ∧ 0 ≤ rn ∧ rn ≤ 31 ∧ 0 ≤ rm ∧ rm ≤ 31 ∧ 0 ≤ cond ∧ cond ≤ 15 ∧ ra = 0 ∧ imm = 0 ∧ shift = 0
def VCS (base rd rn rm ra imm shift cond : Int) : Int := base + rd + 32 * rn + 65536 * rm + 4096 * cond
theorem cleanCS (base op rd rn rm ra imm shift cond : Int) : (let s : Mk := ⟨base, op, rd, rn, rm, ra, imm, shift, cond, true⟩; (s.regs true true true).putCond 15 12).clean = true ↔ CCS rd rn rm ra imm shift cond := by
  simp only [CCS, Mk.clean, Mk.regs, Mk.putRd, Mk.putRn, Mk.putRm, Mk.putRa, Mk.putImm, Mk.putShift, Mk.putCond, Mk.put26, Mk.put19, Mk.ok, Mk.okS, if_true, if_false, Bool.false_eq_true, Bool.true_and, Bool.and_eq_true, decide_eq_true_eq, decide_true, and_true, true_and]
  all_goals (constructor <;> (intro h; omega))
theorem val21 (op rd rn rm ra imm shift cond : Int) (h : CCS rd rn rm ra imm shift cond) : (let s : Mk := ⟨2592079872, op, rd, rn, rm, ra, imm, shift, cond, true⟩; (s.regs true true true).putCond 15 12).W = VCS 2592079872 rd rn rm ra imm shift cond := by
  simp only [CCS] at h
  simp only [VCS, Mk.regs, Mk.putRd, Mk.putRn, Mk.putRm, Mk.putRa, Mk.putImm, Mk.putShift, Mk.putCond, Mk.put26, Mk.put19, if_true, if_false, Bool.false_eq_true]
  rw [show enc_or (2592079872) rd (31 - 0) 0 = 2592079872 + rd from (enc_or_add (2592079872) rd 31 5 0 (by decide) (by decide) (by decide) (by decide) (by omega) (by omega) (by simp only [Nat.reduceAdd, Nat.reducePow]; omega) (by omega) (by omega) (by omega)).trans (by omega)]
  rw [show enc_or (2592079872 + rd) rn (31 - 0) 5 = 2592079872 + rd + 32 * rn from (enc_or_add (2592079872 + rd) rn 31 5 5 (by decide) (by decide) (by decide) (by decide) (by omega) (by omega) (by simp only [Nat.reduceAdd, Nat.reducePow]; omega) (by omega) (by omega) (by omega)).trans (by omega)]
  rw [show enc_or (2592079872 + rd + 32 * rn) rm (31 - 0) 16 = 2592079872 + rd + 32 * rn + 65536 * rm from (enc_or_add (2592079872 + rd + 32 * rn) rm 31 5 16 (by decide) (by decide) (by decide) (by decide) (by omega) (by omega) (by simp only [Nat.reduceAdd, Nat.reducePow]; omega) (by omega) (by omega) (by omega)).trans (by omega)]
  rw [show enc_or (2592079872 + rd + 32 * rn + 65536 * rm) cond (15 - 0) 12 = 2592079872 + rd + 32 * rn + 65536 * rm + 4096 * cond from (enc_or_add (2592079872 + rd + 32 * rn + 65536 * rm) cond 15 4 12 (by decide) (by decide) (by decide) (by decide) (by omega) (by omega) (by simp only [Nat.reduceAdd, Nat.reducePow]; omega) (by omega) (by omega) (by omega)).trans (by omega)]
theorem val22 (op rd rn rm ra imm shift cond : Int) (h : CCS rd rn rm ra imm shift cond) : (let s : Mk := ⟨2592080896, op, rd, rn, rm, ra, imm, shift, cond, true⟩; (s.regs true true true).putCond 15 12).W = VCS 2592080896 rd rn rm ra imm shift cond := by
  simp only [CCS] at h
  simp only [VCS, Mk.regs, Mk.putRd, Mk.putRn, Mk.putRm, Mk.putRa, Mk.putImm, Mk.putShift, Mk.putCond, Mk.put26, Mk.put19, if_true, if_false, Bool.false_eq_true]
  rw [show enc_or (2592080896) rd (31 - 0) 0 = 2592080896 + rd from (enc_or_add (2592080896) rd 31 5 0 (by decide) (by decide) (by decide) (by decide) (by omega) (by omega) (by simp only [Nat.reduceAdd, Nat.reducePow]; omega) (by omega) (by omega) (by omega)).trans (by omega)]
  rw [show enc_or (2592080896 + rd) rn (31 - 0) 5 = 2592080896 + rd + 32 * rn from (enc_or_add (2592080896 + rd) rn 31 5 5 (by decide) (by decide) (by decide) (by decide) (by omega) (by omega) (by simp only [Nat.reduceAdd, Nat.reducePow]; omega) (by omega) (by omega) (by omega)).trans (by omega)]
  rw [show enc_or (2592080896 + rd + 32 * rn) rm (31 - 0) 16 = 2592080896 + rd + 32 * rn + 65536 * rm from (enc_or_add (2592080896 + rd + 32 * rn) rm 31 5 16 (by decide) (by decide) (by decide) (by decide) (by omega) (by omega) (by simp only [Nat.reduceAdd, Nat.reducePow]; omega) (by omega) (by omega) (by omega)).trans (by omega)]
  rw [show enc_or (2592080896 + rd + 32 * rn + 65536 * rm) cond (15 - 0) 12 = 2592080896 + rd + 32 * rn + 65536 * rm + 4096 * cond from (enc_or_add (2592080896 + rd + 32 * rn + 65536 * rm) cond 15 4 12 (by decide) (by decide) (by decide) (by decide) (by omega) (by omega) (by simp only [Nat.reduceAdd, Nat.reducePow]; omega) (by omega) (by omega) (by omega)).trans (by omega)]
/-- Group BR: ops [23, 24]. -/
def CBR (rd rn rm ra imm shift cond : Int) : Prop := -33554432 ≤ imm ∧ imm < 33554432 ∧ rd = 0 ∧ rn = 0 ∧ rm = 0 ∧ ra = 0 ∧ shift = 0 ∧ cond = 0
def VBR (base rd rn rm ra imm shift cond : Int) : Int := base + (imm % 67108864)
theorem cleanBR (base op rd rn rm ra imm shift cond : Int) : (let s : Mk := ⟨base, op, rd, rn, rm, ra, imm, shift, cond, true⟩; s.put26).clean = true ↔ CBR rd rn rm ra imm shift cond := by
  simp only [CBR, Mk.clean, Mk.regs, Mk.putRd, Mk.putRn, Mk.putRm, Mk.putRa, Mk.putImm, Mk.putShift, Mk.putCond, Mk.put26, Mk.put19, Mk.ok, Mk.okS, if_true, if_false, Bool.false_eq_true, Bool.true_and, Bool.and_eq_true, decide_eq_true_eq, decide_true, and_true, true_and]
  all_goals (constructor <;> (intro h; omega))
theorem val23 (op rd rn rm ra imm shift cond : Int) (h : CBR rd rn rm ra imm shift cond) : (let s : Mk := ⟨335544320, op, rd, rn, rm, ra, imm, shift, cond, true⟩; s.put26).W = VBR 335544320 rd rn rm ra imm shift cond := by
  simp only [CBR] at h
  simp only [VBR, Mk.regs, Mk.putRd, Mk.putRn, Mk.putRm, Mk.putRa, Mk.putImm, Mk.putShift, Mk.putCond, Mk.put26, Mk.put19, if_true, if_false, Bool.false_eq_true]
  exact enc_or26_add (335544320) imm (by omega) (by omega) (by omega)
theorem val24 (op rd rn rm ra imm shift cond : Int) (h : CBR rd rn rm ra imm shift cond) : (let s : Mk := ⟨2483027968, op, rd, rn, rm, ra, imm, shift, cond, true⟩; s.put26).W = VBR 2483027968 rd rn rm ra imm shift cond := by
  simp only [CBR] at h
  simp only [VBR, Mk.regs, Mk.putRd, Mk.putRn, Mk.putRm, Mk.putRa, Mk.putImm, Mk.putShift, Mk.putCond, Mk.put26, Mk.put19, if_true, if_false, Bool.false_eq_true]
  exact enc_or26_add (2483027968) imm (by omega) (by omega) (by omega)
/-- Group WH: ops [25]. -/
def CWH (rd rn rm ra imm shift cond : Int) : Prop := 0 ≤ cond ∧ cond ≤ 15 ∧ -262144 ≤ imm ∧ imm < 262144 ∧ rd = 0 ∧ rn = 0 ∧ rm = 0 ∧ ra = 0 ∧ shift = 0
def VWH (base rd rn rm ra imm shift cond : Int) : Int := base + cond + 32 * (imm % 524288)
theorem cleanWH (base op rd rn rm ra imm shift cond : Int) : (let s : Mk := ⟨base, op, rd, rn, rm, ra, imm, shift, cond, true⟩; (s.putCond 15 0).put19).clean = true ↔ CWH rd rn rm ra imm shift cond := by
  simp only [CWH, Mk.clean, Mk.regs, Mk.putRd, Mk.putRn, Mk.putRm, Mk.putRa, Mk.putImm, Mk.putShift, Mk.putCond, Mk.put26, Mk.put19, Mk.ok, Mk.okS, if_true, if_false, Bool.false_eq_true, Bool.true_and, Bool.and_eq_true, decide_eq_true_eq, decide_true, and_true, true_and]
  all_goals (constructor <;> (intro h; omega))
theorem val25 (op rd rn rm ra imm shift cond : Int) (h : CWH rd rn rm ra imm shift cond) : (let s : Mk := ⟨1409286144, op, rd, rn, rm, ra, imm, shift, cond, true⟩; (s.putCond 15 0).put19).W = VWH 1409286144 rd rn rm ra imm shift cond := by
  simp only [CWH] at h
  simp only [VWH, Mk.regs, Mk.putRd, Mk.putRn, Mk.putRm, Mk.putRa, Mk.putImm, Mk.putShift, Mk.putCond, Mk.put26, Mk.put19, if_true, if_false, Bool.false_eq_true]
  rw [show enc_or (1409286144) cond (15 - 0) 0 = 1409286144 + cond from (enc_or_add (1409286144) cond 15 4 0 (by decide) (by decide) (by decide) (by decide) (by omega) (by omega) (by simp only [Nat.reduceAdd, Nat.reducePow]; omega) (by omega) (by omega) (by omega)).trans (by omega)]
  exact enc_or19_add (1409286144 + cond) imm (by omega) (by omega) (by omega)
/-- Group ZR: ops [26, 27]. -/
def CZR (rd rn rm ra imm shift cond : Int) : Prop := 0 ≤ rd ∧ rd ≤ 31 ∧ -262144 ≤ imm ∧ imm < 262144 ∧ rn = 0 ∧ rm = 0 ∧ ra = 0 ∧ shift = 0 ∧ cond = 0
def VZR (base rd rn rm ra imm shift cond : Int) : Int := base + rd + 32 * (imm % 524288)
theorem cleanZR (base op rd rn rm ra imm shift cond : Int) : (let s : Mk := ⟨base, op, rd, rn, rm, ra, imm, shift, cond, true⟩; (s.regs true false false).put19).clean = true ↔ CZR rd rn rm ra imm shift cond := by
  simp only [CZR, Mk.clean, Mk.regs, Mk.putRd, Mk.putRn, Mk.putRm, Mk.putRa, Mk.putImm, Mk.putShift, Mk.putCond, Mk.put26, Mk.put19, Mk.ok, Mk.okS, if_true, if_false, Bool.false_eq_true, Bool.true_and, Bool.and_eq_true, decide_eq_true_eq, decide_true, and_true, true_and]
  all_goals (constructor <;> (intro h; omega))
theorem val26 (op rd rn rm ra imm shift cond : Int) (h : CZR rd rn rm ra imm shift cond) : (let s : Mk := ⟨3019898880, op, rd, rn, rm, ra, imm, shift, cond, true⟩; (s.regs true false false).put19).W = VZR 3019898880 rd rn rm ra imm shift cond := by
  simp only [CZR] at h
  simp only [VZR, Mk.regs, Mk.putRd, Mk.putRn, Mk.putRm, Mk.putRa, Mk.putImm, Mk.putShift, Mk.putCond, Mk.put26, Mk.put19, if_true, if_false, Bool.false_eq_true]
  rw [show enc_or (3019898880) rd (31 - 0) 0 = 3019898880 + rd from (enc_or_add (3019898880) rd 31 5 0 (by decide) (by decide) (by decide) (by decide) (by omega) (by omega) (by simp only [Nat.reduceAdd, Nat.reducePow]; omega) (by omega) (by omega) (by omega)).trans (by omega)]
  exact enc_or19_add (3019898880 + rd) imm (by omega) (by omega) (by omega)
theorem val27 (op rd rn rm ra imm shift cond : Int) (h : CZR rd rn rm ra imm shift cond) : (let s : Mk := ⟨3036676096, op, rd, rn, rm, ra, imm, shift, cond, true⟩; (s.regs true false false).put19).W = VZR 3036676096 rd rn rm ra imm shift cond := by
  simp only [CZR] at h
  simp only [VZR, Mk.regs, Mk.putRd, Mk.putRn, Mk.putRm, Mk.putRa, Mk.putImm, Mk.putShift, Mk.putCond, Mk.put26, Mk.put19, if_true, if_false, Bool.false_eq_true]
  rw [show enc_or (3036676096) rd (31 - 0) 0 = 3036676096 + rd from (enc_or_add (3036676096) rd 31 5 0 (by decide) (by decide) (by decide) (by decide) (by omega) (by omega) (by simp only [Nat.reduceAdd, Nat.reducePow]; omega) (by omega) (by omega) (by omega)).trans (by omega)]
  exact enc_or19_add (3036676096 + rd) imm (by omega) (by omega) (by omega)
/-- Group RT: ops [28]. -/
def CRT (rd rn rm ra imm shift cond : Int) : Prop := 0 ≤ rn ∧ rn ≤ 31 ∧ rd = 0 ∧ rm = 0 ∧ ra = 0 ∧ imm = 0 ∧ shift = 0 ∧ cond = 0
def VRT (base rd rn rm ra imm shift cond : Int) : Int := base + 32 * rn
theorem cleanRT (base op rd rn rm ra imm shift cond : Int) : (let s : Mk := ⟨base, op, rd, rn, rm, ra, imm, shift, cond, true⟩; s.regs false true false).clean = true ↔ CRT rd rn rm ra imm shift cond := by
  simp only [CRT, Mk.clean, Mk.regs, Mk.putRd, Mk.putRn, Mk.putRm, Mk.putRa, Mk.putImm, Mk.putShift, Mk.putCond, Mk.put26, Mk.put19, Mk.ok, Mk.okS, if_true, if_false, Bool.false_eq_true, Bool.true_and, Bool.and_eq_true, decide_eq_true_eq, decide_true, and_true, true_and]
  all_goals (constructor <;> (intro h; omega))
theorem val28 (op rd rn rm ra imm shift cond : Int) (h : CRT rd rn rm ra imm shift cond) : (let s : Mk := ⟨3596550144, op, rd, rn, rm, ra, imm, shift, cond, true⟩; s.regs false true false).W = VRT 3596550144 rd rn rm ra imm shift cond := by
  simp only [CRT] at h
  simp only [VRT, Mk.regs, Mk.putRd, Mk.putRn, Mk.putRm, Mk.putRa, Mk.putImm, Mk.putShift, Mk.putCond, Mk.put26, Mk.put19, if_true, if_false, Bool.false_eq_true]
  rw [show enc_or (3596550144) rn (31 - 0) 5 = 3596550144 + 32 * rn from (enc_or_add (3596550144) rn 31 5 5 (by decide) (by decide) (by decide) (by decide) (by omega) (by omega) (by simp only [Nat.reduceAdd, Nat.reducePow]; omega) (by omega) (by omega) (by omega)).trans (by omega)]
/-- Group SV: ops [29, 30]. -/
def CSV (rd rn rm ra imm shift cond : Int) : Prop := 0 ≤ imm ∧ imm ≤ 65535 ∧ rd = 0 ∧ rn = 0 ∧ rm = 0 ∧ ra = 0 ∧ shift = 0 ∧ cond = 0
def VSV (base rd rn rm ra imm shift cond : Int) : Int := base + 32 * imm
theorem cleanSV (base op rd rn rm ra imm shift cond : Int) : (let s : Mk := ⟨base, op, rd, rn, rm, ra, imm, shift, cond, true⟩; s.putImm 65535 5).clean = true ↔ CSV rd rn rm ra imm shift cond := by
  simp only [CSV, Mk.clean, Mk.regs, Mk.putRd, Mk.putRn, Mk.putRm, Mk.putRa, Mk.putImm, Mk.putShift, Mk.putCond, Mk.put26, Mk.put19, Mk.ok, Mk.okS, if_true, if_false, Bool.false_eq_true, Bool.true_and, Bool.and_eq_true, decide_eq_true_eq, decide_true, and_true, true_and]
  all_goals (constructor <;> (intro h; omega))
theorem val29 (op rd rn rm ra imm shift cond : Int) (h : CSV rd rn rm ra imm shift cond) : (let s : Mk := ⟨3556769793, op, rd, rn, rm, ra, imm, shift, cond, true⟩; s.putImm 65535 5).W = VSV 3556769793 rd rn rm ra imm shift cond := by
  simp only [CSV] at h
  simp only [VSV, Mk.regs, Mk.putRd, Mk.putRn, Mk.putRm, Mk.putRa, Mk.putImm, Mk.putShift, Mk.putCond, Mk.put26, Mk.put19, if_true, if_false, Bool.false_eq_true]
  rw [show enc_or (3556769793) imm (65535 - 0) 5 = 3556769793 + 32 * imm from (enc_or_add (3556769793) imm 65535 16 5 (by decide) (by decide) (by decide) (by decide) (by omega) (by omega) (by simp only [Nat.reduceAdd, Nat.reducePow]; omega) (by omega) (by omega) (by omega)).trans (by omega)]
theorem val30 (op rd rn rm ra imm shift cond : Int) (h : CSV rd rn rm ra imm shift cond) : (let s : Mk := ⟨3558866944, op, rd, rn, rm, ra, imm, shift, cond, true⟩; s.putImm 65535 5).W = VSV 3558866944 rd rn rm ra imm shift cond := by
  simp only [CSV] at h
  simp only [VSV, Mk.regs, Mk.putRd, Mk.putRn, Mk.putRm, Mk.putRa, Mk.putImm, Mk.putShift, Mk.putCond, Mk.put26, Mk.put19, if_true, if_false, Bool.false_eq_true]
  rw [show enc_or (3558866944) imm (65535 - 0) 5 = 3558866944 + 32 * imm from (enc_or_add (3558866944) imm 65535 16 5 (by decide) (by decide) (by decide) (by decide) (by omega) (by omega) (by simp only [Nat.reduceAdd, Nat.reducePow]; omega) (by omega) (by omega) (by omega)).trans (by omega)]
/-- Group ST: ops [31]. -/
def CST (rd rn rm ra imm shift cond : Int) : Prop := rd = 0 ∧ rn = 0 ∧ rm = 0 ∧ ra = 0 ∧ imm = 0 ∧ shift = 0 ∧ cond = 0
def VST (base rd rn rm ra imm shift cond : Int) : Int := base
theorem cleanST (base op rd rn rm ra imm shift cond : Int) : (let s : Mk := ⟨base, op, rd, rn, rm, ra, imm, shift, cond, true⟩; s).clean = true ↔ CST rd rn rm ra imm shift cond := by
  simp only [CST, Mk.clean, Mk.regs, Mk.putRd, Mk.putRn, Mk.putRm, Mk.putRa, Mk.putImm, Mk.putShift, Mk.putCond, Mk.put26, Mk.put19, Mk.ok, Mk.okS, if_true, if_false, Bool.false_eq_true, Bool.true_and, Bool.and_eq_true, decide_eq_true_eq, decide_true, and_true, true_and]
  all_goals (constructor <;> (intro h; omega))
theorem val31 (op rd rn rm ra imm shift cond : Int) (h : CST rd rn rm ra imm shift cond) : (let s : Mk := ⟨3573751839, op, rd, rn, rm, ra, imm, shift, cond, true⟩; s).W = VST 3573751839 rd rn rm ra imm shift cond := by
  simp only [CST] at h
  simp only [VST, Mk.regs, Mk.putRd, Mk.putRn, Mk.putRm, Mk.putRa, Mk.putImm, Mk.putShift, Mk.putCond, Mk.put26, Mk.put19, if_true, if_false, Bool.false_eq_true]
/-- Group R3: ops [1, 2, 3, 7, 8, 9, 10, 13, 14, 15]. -/
def CR3 (rd rn rm ra imm shift cond : Int) : Prop := 0 ≤ rd ∧ rd ≤ 31 ∧ 0 ≤ rn ∧ rn ≤ 31 ∧ 0 ≤ rm ∧ rm ≤ 31 ∧ ra = 0 ∧ imm = 0 ∧ shift = 0 ∧ cond = 0
def VR3 (base rd rn rm ra imm shift cond : Int) : Int := base + rd + 32 * rn + 65536 * rm
theorem cleanR3 (base op rd rn rm ra imm shift cond : Int) : (let s : Mk := ⟨base, op, rd, rn, rm, ra, imm, shift, cond, true⟩; s.regs true true true).clean = true ↔ CR3 rd rn rm ra imm shift cond := by
  simp only [CR3, Mk.clean, Mk.regs, Mk.putRd, Mk.putRn, Mk.putRm, Mk.putRa, Mk.putImm, Mk.putShift, Mk.putCond, Mk.put26, Mk.put19, Mk.ok, Mk.okS, if_true, if_false, Bool.false_eq_true, Bool.true_and, Bool.and_eq_true, decide_eq_true_eq, decide_true, and_true, true_and]
  all_goals (constructor <;> (intro h; omega))
theorem val1 (op rd rn rm ra imm shift cond : Int) (h : CR3 rd rn rm ra imm shift cond) : (let s : Mk := ⟨2332033024, op, rd, rn, rm, ra, imm, shift, cond, true⟩; s.regs true true true).W = VR3 2332033024 rd rn rm ra imm shift cond := by
  simp only [CR3] at h
  simp only [VR3, Mk.regs, Mk.putRd, Mk.putRn, Mk.putRm, Mk.putRa, Mk.putImm, Mk.putShift, Mk.putCond, Mk.put26, Mk.put19, if_true, if_false, Bool.false_eq_true]
  rw [show enc_or (2332033024) rd (31 - 0) 0 = 2332033024 + rd from (enc_or_add (2332033024) rd 31 5 0 (by decide) (by decide) (by decide) (by decide) (by omega) (by omega) (by simp only [Nat.reduceAdd, Nat.reducePow]; omega) (by omega) (by omega) (by omega)).trans (by omega)]
  rw [show enc_or (2332033024 + rd) rn (31 - 0) 5 = 2332033024 + rd + 32 * rn from (enc_or_add (2332033024 + rd) rn 31 5 5 (by decide) (by decide) (by decide) (by decide) (by omega) (by omega) (by simp only [Nat.reduceAdd, Nat.reducePow]; omega) (by omega) (by omega) (by omega)).trans (by omega)]
  rw [show enc_or (2332033024 + rd + 32 * rn) rm (31 - 0) 16 = 2332033024 + rd + 32 * rn + 65536 * rm from (enc_or_add (2332033024 + rd + 32 * rn) rm 31 5 16 (by decide) (by decide) (by decide) (by decide) (by omega) (by omega) (by simp only [Nat.reduceAdd, Nat.reducePow]; omega) (by omega) (by omega) (by omega)).trans (by omega)]
theorem val2 (op rd rn rm ra imm shift cond : Int) (h : CR3 rd rn rm ra imm shift cond) : (let s : Mk := ⟨3405774848, op, rd, rn, rm, ra, imm, shift, cond, true⟩; s.regs true true true).W = VR3 3405774848 rd rn rm ra imm shift cond := by
  simp only [CR3] at h
  simp only [VR3, Mk.regs, Mk.putRd, Mk.putRn, Mk.putRm, Mk.putRa, Mk.putImm, Mk.putShift, Mk.putCond, Mk.put26, Mk.put19, if_true, if_false, Bool.false_eq_true]
  rw [show enc_or (3405774848) rd (31 - 0) 0 = 3405774848 + rd from (enc_or_add (3405774848) rd 31 5 0 (by decide) (by decide) (by decide) (by decide) (by omega) (by omega) (by simp only [Nat.reduceAdd, Nat.reducePow]; omega) (by omega) (by omega) (by omega)).trans (by omega)]
  rw [show enc_or (3405774848 + rd) rn (31 - 0) 5 = 3405774848 + rd + 32 * rn from (enc_or_add (3405774848 + rd) rn 31 5 5 (by decide) (by decide) (by decide) (by decide) (by omega) (by omega) (by simp only [Nat.reduceAdd, Nat.reducePow]; omega) (by omega) (by omega) (by omega)).trans (by omega)]
  rw [show enc_or (3405774848 + rd + 32 * rn) rm (31 - 0) 16 = 3405774848 + rd + 32 * rn + 65536 * rm from (enc_or_add (3405774848 + rd + 32 * rn) rm 31 5 16 (by decide) (by decide) (by decide) (by decide) (by omega) (by omega) (by simp only [Nat.reduceAdd, Nat.reducePow]; omega) (by omega) (by omega) (by omega)).trans (by omega)]
theorem val3 (op rd rn rm ra imm shift cond : Int) (h : CR3 rd rn rm ra imm shift cond) : (let s : Mk := ⟨3942645760, op, rd, rn, rm, ra, imm, shift, cond, true⟩; s.regs true true true).W = VR3 3942645760 rd rn rm ra imm shift cond := by
  simp only [CR3] at h
  simp only [VR3, Mk.regs, Mk.putRd, Mk.putRn, Mk.putRm, Mk.putRa, Mk.putImm, Mk.putShift, Mk.putCond, Mk.put26, Mk.put19, if_true, if_false, Bool.false_eq_true]
  rw [show enc_or (3942645760) rd (31 - 0) 0 = 3942645760 + rd from (enc_or_add (3942645760) rd 31 5 0 (by decide) (by decide) (by decide) (by decide) (by omega) (by omega) (by simp only [Nat.reduceAdd, Nat.reducePow]; omega) (by omega) (by omega) (by omega)).trans (by omega)]
  rw [show enc_or (3942645760 + rd) rn (31 - 0) 5 = 3942645760 + rd + 32 * rn from (enc_or_add (3942645760 + rd) rn 31 5 5 (by decide) (by decide) (by decide) (by decide) (by omega) (by omega) (by simp only [Nat.reduceAdd, Nat.reducePow]; omega) (by omega) (by omega) (by omega)).trans (by omega)]
  rw [show enc_or (3942645760 + rd + 32 * rn) rm (31 - 0) 16 = 3942645760 + rd + 32 * rn + 65536 * rm from (enc_or_add (3942645760 + rd + 32 * rn) rm 31 5 16 (by decide) (by decide) (by decide) (by decide) (by omega) (by omega) (by simp only [Nat.reduceAdd, Nat.reducePow]; omega) (by omega) (by omega) (by omega)).trans (by omega)]
theorem val7 (op rd rn rm ra imm shift cond : Int) (h : CR3 rd rn rm ra imm shift cond) : (let s : Mk := ⟨2315255808, op, rd, rn, rm, ra, imm, shift, cond, true⟩; s.regs true true true).W = VR3 2315255808 rd rn rm ra imm shift cond := by
  simp only [CR3] at h
  simp only [VR3, Mk.regs, Mk.putRd, Mk.putRn, Mk.putRm, Mk.putRa, Mk.putImm, Mk.putShift, Mk.putCond, Mk.put26, Mk.put19, if_true, if_false, Bool.false_eq_true]
  rw [show enc_or (2315255808) rd (31 - 0) 0 = 2315255808 + rd from (enc_or_add (2315255808) rd 31 5 0 (by decide) (by decide) (by decide) (by decide) (by omega) (by omega) (by simp only [Nat.reduceAdd, Nat.reducePow]; omega) (by omega) (by omega) (by omega)).trans (by omega)]
  rw [show enc_or (2315255808 + rd) rn (31 - 0) 5 = 2315255808 + rd + 32 * rn from (enc_or_add (2315255808 + rd) rn 31 5 5 (by decide) (by decide) (by decide) (by decide) (by omega) (by omega) (by simp only [Nat.reduceAdd, Nat.reducePow]; omega) (by omega) (by omega) (by omega)).trans (by omega)]
  rw [show enc_or (2315255808 + rd + 32 * rn) rm (31 - 0) 16 = 2315255808 + rd + 32 * rn + 65536 * rm from (enc_or_add (2315255808 + rd + 32 * rn) rm 31 5 16 (by decide) (by decide) (by decide) (by decide) (by omega) (by omega) (by simp only [Nat.reduceAdd, Nat.reducePow]; omega) (by omega) (by omega) (by omega)).trans (by omega)]
theorem val8 (op rd rn rm ra imm shift cond : Int) (h : CR3 rd rn rm ra imm shift cond) : (let s : Mk := ⟨2852126720, op, rd, rn, rm, ra, imm, shift, cond, true⟩; s.regs true true true).W = VR3 2852126720 rd rn rm ra imm shift cond := by
  simp only [CR3] at h
  simp only [VR3, Mk.regs, Mk.putRd, Mk.putRn, Mk.putRm, Mk.putRa, Mk.putImm, Mk.putShift, Mk.putCond, Mk.put26, Mk.put19, if_true, if_false, Bool.false_eq_true]
  rw [show enc_or (2852126720) rd (31 - 0) 0 = 2852126720 + rd from (enc_or_add (2852126720) rd 31 5 0 (by decide) (by decide) (by decide) (by decide) (by omega) (by omega) (by simp only [Nat.reduceAdd, Nat.reducePow]; omega) (by omega) (by omega) (by omega)).trans (by omega)]
  rw [show enc_or (2852126720 + rd) rn (31 - 0) 5 = 2852126720 + rd + 32 * rn from (enc_or_add (2852126720 + rd) rn 31 5 5 (by decide) (by decide) (by decide) (by decide) (by omega) (by omega) (by simp only [Nat.reduceAdd, Nat.reducePow]; omega) (by omega) (by omega) (by omega)).trans (by omega)]
  rw [show enc_or (2852126720 + rd + 32 * rn) rm (31 - 0) 16 = 2852126720 + rd + 32 * rn + 65536 * rm from (enc_or_add (2852126720 + rd + 32 * rn) rm 31 5 16 (by decide) (by decide) (by decide) (by decide) (by omega) (by omega) (by simp only [Nat.reduceAdd, Nat.reducePow]; omega) (by omega) (by omega) (by omega)).trans (by omega)]
theorem val9 (op rd rn rm ra imm shift cond : Int) (h : CR3 rd rn rm ra imm shift cond) : (let s : Mk := ⟨3388997632, op, rd, rn, rm, ra, imm, shift, cond, true⟩; s.regs true true true).W = VR3 3388997632 rd rn rm ra imm shift cond := by
  simp only [CR3] at h
  simp only [VR3, Mk.regs, Mk.putRd, Mk.putRn, Mk.putRm, Mk.putRa, Mk.putImm, Mk.putShift, Mk.putCond, Mk.put26, Mk.put19, if_true, if_false, Bool.false_eq_true]
  rw [show enc_or (3388997632) rd (31 - 0) 0 = 3388997632 + rd from (enc_or_add (3388997632) rd 31 5 0 (by decide) (by decide) (by decide) (by decide) (by omega) (by omega) (by simp only [Nat.reduceAdd, Nat.reducePow]; omega) (by omega) (by omega) (by omega)).trans (by omega)]
  rw [show enc_or (3388997632 + rd) rn (31 - 0) 5 = 3388997632 + rd + 32 * rn from (enc_or_add (3388997632 + rd) rn 31 5 5 (by decide) (by decide) (by decide) (by decide) (by omega) (by omega) (by simp only [Nat.reduceAdd, Nat.reducePow]; omega) (by omega) (by omega) (by omega)).trans (by omega)]
  rw [show enc_or (3388997632 + rd + 32 * rn) rm (31 - 0) 16 = 3388997632 + rd + 32 * rn + 65536 * rm from (enc_or_add (3388997632 + rd + 32 * rn) rm 31 5 16 (by decide) (by decide) (by decide) (by decide) (by omega) (by omega) (by simp only [Nat.reduceAdd, Nat.reducePow]; omega) (by omega) (by omega) (by omega)).trans (by omega)]
theorem val10 (op rd rn rm ra imm shift cond : Int) (h : CR3 rd rn rm ra imm shift cond) : (let s : Mk := ⟨2854223872, op, rd, rn, rm, ra, imm, shift, cond, true⟩; s.regs true true true).W = VR3 2854223872 rd rn rm ra imm shift cond := by
  simp only [CR3] at h
  simp only [VR3, Mk.regs, Mk.putRd, Mk.putRn, Mk.putRm, Mk.putRa, Mk.putImm, Mk.putShift, Mk.putCond, Mk.put26, Mk.put19, if_true, if_false, Bool.false_eq_true]
  rw [show enc_or (2854223872) rd (31 - 0) 0 = 2854223872 + rd from (enc_or_add (2854223872) rd 31 5 0 (by decide) (by decide) (by decide) (by decide) (by omega) (by omega) (by simp only [Nat.reduceAdd, Nat.reducePow]; omega) (by omega) (by omega) (by omega)).trans (by omega)]
  rw [show enc_or (2854223872 + rd) rn (31 - 0) 5 = 2854223872 + rd + 32 * rn from (enc_or_add (2854223872 + rd) rn 31 5 5 (by decide) (by decide) (by decide) (by decide) (by omega) (by omega) (by simp only [Nat.reduceAdd, Nat.reducePow]; omega) (by omega) (by omega) (by omega)).trans (by omega)]
  rw [show enc_or (2854223872 + rd + 32 * rn) rm (31 - 0) 16 = 2854223872 + rd + 32 * rn + 65536 * rm from (enc_or_add (2854223872 + rd + 32 * rn) rm 31 5 16 (by decide) (by decide) (by decide) (by decide) (by omega) (by omega) (by simp only [Nat.reduceAdd, Nat.reducePow]; omega) (by omega) (by omega) (by omega)).trans (by omega)]
theorem val13 (op rd rn rm ra imm shift cond : Int) (h : CR3 rd rn rm ra imm shift cond) : (let s : Mk := ⟨2596277248, op, rd, rn, rm, ra, imm, shift, cond, true⟩; s.regs true true true).W = VR3 2596277248 rd rn rm ra imm shift cond := by
  simp only [CR3] at h
  simp only [VR3, Mk.regs, Mk.putRd, Mk.putRn, Mk.putRm, Mk.putRa, Mk.putImm, Mk.putShift, Mk.putCond, Mk.put26, Mk.put19, if_true, if_false, Bool.false_eq_true]
  rw [show enc_or (2596277248) rd (31 - 0) 0 = 2596277248 + rd from (enc_or_add (2596277248) rd 31 5 0 (by decide) (by decide) (by decide) (by decide) (by omega) (by omega) (by simp only [Nat.reduceAdd, Nat.reducePow]; omega) (by omega) (by omega) (by omega)).trans (by omega)]
  rw [show enc_or (2596277248 + rd) rn (31 - 0) 5 = 2596277248 + rd + 32 * rn from (enc_or_add (2596277248 + rd) rn 31 5 5 (by decide) (by decide) (by decide) (by decide) (by omega) (by omega) (by simp only [Nat.reduceAdd, Nat.reducePow]; omega) (by omega) (by omega) (by omega)).trans (by omega)]
  rw [show enc_or (2596277248 + rd + 32 * rn) rm (31 - 0) 16 = 2596277248 + rd + 32 * rn + 65536 * rm from (enc_or_add (2596277248 + rd + 32 * rn) rm 31 5 16 (by decide) (by decide) (by decide) (by decide) (by omega) (by omega) (by simp only [Nat.reduceAdd, Nat.reducePow]; omega) (by omega) (by omega) (by omega)).trans (by omega)]
theorem val14 (op rd rn rm ra imm shift cond : Int) (h : CR3 rd rn rm ra imm shift cond) : (let s : Mk := ⟨2596282368, op, rd, rn, rm, ra, imm, shift, cond, true⟩; s.regs true true true).W = VR3 2596282368 rd rn rm ra imm shift cond := by
  simp only [CR3] at h
  simp only [VR3, Mk.regs, Mk.putRd, Mk.putRn, Mk.putRm, Mk.putRa, Mk.putImm, Mk.putShift, Mk.putCond, Mk.put26, Mk.put19, if_true, if_false, Bool.false_eq_true]
  rw [show enc_or (2596282368) rd (31 - 0) 0 = 2596282368 + rd from (enc_or_add (2596282368) rd 31 5 0 (by decide) (by decide) (by decide) (by decide) (by omega) (by omega) (by simp only [Nat.reduceAdd, Nat.reducePow]; omega) (by omega) (by omega) (by omega)).trans (by omega)]
  rw [show enc_or (2596282368 + rd) rn (31 - 0) 5 = 2596282368 + rd + 32 * rn from (enc_or_add (2596282368 + rd) rn 31 5 5 (by decide) (by decide) (by decide) (by decide) (by omega) (by omega) (by simp only [Nat.reduceAdd, Nat.reducePow]; omega) (by omega) (by omega) (by omega)).trans (by omega)]
  rw [show enc_or (2596282368 + rd + 32 * rn) rm (31 - 0) 16 = 2596282368 + rd + 32 * rn + 65536 * rm from (enc_or_add (2596282368 + rd + 32 * rn) rm 31 5 16 (by decide) (by decide) (by decide) (by decide) (by omega) (by omega) (by simp only [Nat.reduceAdd, Nat.reducePow]; omega) (by omega) (by omega) (by omega)).trans (by omega)]
theorem val15 (op rd rn rm ra imm shift cond : Int) (h : CR3 rd rn rm ra imm shift cond) : (let s : Mk := ⟨2596284416, op, rd, rn, rm, ra, imm, shift, cond, true⟩; s.regs true true true).W = VR3 2596284416 rd rn rm ra imm shift cond := by
  simp only [CR3] at h
  simp only [VR3, Mk.regs, Mk.putRd, Mk.putRn, Mk.putRm, Mk.putRa, Mk.putImm, Mk.putShift, Mk.putCond, Mk.put26, Mk.put19, if_true, if_false, Bool.false_eq_true]
  rw [show enc_or (2596284416) rd (31 - 0) 0 = 2596284416 + rd from (enc_or_add (2596284416) rd 31 5 0 (by decide) (by decide) (by decide) (by decide) (by omega) (by omega) (by simp only [Nat.reduceAdd, Nat.reducePow]; omega) (by omega) (by omega) (by omega)).trans (by omega)]
  rw [show enc_or (2596284416 + rd) rn (31 - 0) 5 = 2596284416 + rd + 32 * rn from (enc_or_add (2596284416 + rd) rn 31 5 5 (by decide) (by decide) (by decide) (by decide) (by omega) (by omega) (by simp only [Nat.reduceAdd, Nat.reducePow]; omega) (by omega) (by omega) (by omega)).trans (by omega)]
  rw [show enc_or (2596284416 + rd + 32 * rn) rm (31 - 0) 16 = 2596284416 + rd + 32 * rn + 65536 * rm from (enc_or_add (2596284416 + rd + 32 * rn) rm 31 5 16 (by decide) (by decide) (by decide) (by decide) (by omega) (by omega) (by simp only [Nat.reduceAdd, Nat.reducePow]; omega) (by omega) (by omega) (by omega)).trans (by omega)]
/-- What Encode comes to: the word of an op, if its fields fit. -/
def isOp (op : Int) (rd rn rm ra imm shift cond : Int) : Prop :=
  (op = 1 ∧ CR3 rd rn rm ra imm shift cond) ∨ (op = 2 ∧ CR3 rd rn rm ra imm shift cond) ∨ (op = 3 ∧ CR3 rd rn rm ra imm shift cond) ∨ (op = 4 ∧ CRI rd rn rm ra imm shift cond) ∨ (op = 5 ∧ CRI rd rn rm ra imm shift cond) ∨ (op = 6 ∧ CRI rd rn rm ra imm shift cond) ∨ (op = 7 ∧ CR3 rd rn rm ra imm shift cond) ∨ (op = 8 ∧ CR3 rd rn rm ra imm shift cond) ∨ (op = 9 ∧ CR3 rd rn rm ra imm shift cond) ∨ (op = 10 ∧ CR3 rd rn rm ra imm shift cond) ∨ (op = 11 ∧ CR4 rd rn rm ra imm shift cond) ∨ (op = 12 ∧ CR4 rd rn rm ra imm shift cond) ∨ (op = 13 ∧ CR3 rd rn rm ra imm shift cond) ∨ (op = 14 ∧ CR3 rd rn rm ra imm shift cond) ∨ (op = 15 ∧ CR3 rd rn rm ra imm shift cond) ∨ (op = 16 ∧ CMV rd rn rm ra imm shift cond) ∨ (op = 17 ∧ CMV rd rn rm ra imm shift cond) ∨ (op = 18 ∧ CMV rd rn rm ra imm shift cond) ∨ (op = 19 ∧ CRI rd rn rm ra imm shift cond) ∨ (op = 20 ∧ CRI rd rn rm ra imm shift cond) ∨ (op = 21 ∧ CCS rd rn rm ra imm shift cond) ∨ (op = 22 ∧ CCS rd rn rm ra imm shift cond) ∨ (op = 23 ∧ CBR rd rn rm ra imm shift cond) ∨ (op = 24 ∧ CBR rd rn rm ra imm shift cond) ∨ (op = 25 ∧ CWH rd rn rm ra imm shift cond) ∨ (op = 26 ∧ CZR rd rn rm ra imm shift cond) ∨ (op = 27 ∧ CZR rd rn rm ra imm shift cond) ∨ (op = 28 ∧ CRT rd rn rm ra imm shift cond) ∨ (op = 29 ∧ CSV rd rn rm ra imm shift cond) ∨ (op = 30 ∧ CSV rd rn rm ra imm shift cond) ∨ (op = 31 ∧ CST rd rn rm ra imm shift cond)
theorem enc_fields (k : Int) : True := trivial
theorem enc1 (rd rn rm ra imm shift cond : Int) : encode_Encode.f 1 rd rn rm ra imm shift cond = some (open Classical in if CR3 rd rn rm ra imm shift cond then (VR3 2332033024 rd rn rm ra imm shift cond, 0) else (0, 120)) := by
  have hw : encode_word.f 1 = some (2332033024, true) := by decide +kernel
  simp only [encode_Encode.f, hw, Option.bind_some, if_true]
  have hf : Mk.fields ⟨2332033024, 1, rd, rn, rm, ra, imm, shift, cond, true⟩ = (let s : Mk := ⟨2332033024, 1, rd, rn, rm, ra, imm, shift, cond, true⟩; s.regs true true true) := by simp [Mk.fields]
  rw [hf]
  by_cases h : CR3 rd rn rm ra imm shift cond
  · rw [if_pos ((cleanR3 _ _ _ _ _ _ _ _ _).2 h), if_pos h, val1 _ _ _ _ _ _ _ _ h]
  · rw [if_neg (fun hc => h ((cleanR3 _ _ _ _ _ _ _ _ _).1 hc)), if_neg h]
theorem enc2 (rd rn rm ra imm shift cond : Int) : encode_Encode.f 2 rd rn rm ra imm shift cond = some (open Classical in if CR3 rd rn rm ra imm shift cond then (VR3 3405774848 rd rn rm ra imm shift cond, 0) else (0, 120)) := by
  have hw : encode_word.f 2 = some (3405774848, true) := by decide +kernel
  simp only [encode_Encode.f, hw, Option.bind_some, if_true]
  have hf : Mk.fields ⟨3405774848, 2, rd, rn, rm, ra, imm, shift, cond, true⟩ = (let s : Mk := ⟨3405774848, 2, rd, rn, rm, ra, imm, shift, cond, true⟩; s.regs true true true) := by simp [Mk.fields]
  rw [hf]
  by_cases h : CR3 rd rn rm ra imm shift cond
  · rw [if_pos ((cleanR3 _ _ _ _ _ _ _ _ _).2 h), if_pos h, val2 _ _ _ _ _ _ _ _ h]
  · rw [if_neg (fun hc => h ((cleanR3 _ _ _ _ _ _ _ _ _).1 hc)), if_neg h]
theorem enc3 (rd rn rm ra imm shift cond : Int) : encode_Encode.f 3 rd rn rm ra imm shift cond = some (open Classical in if CR3 rd rn rm ra imm shift cond then (VR3 3942645760 rd rn rm ra imm shift cond, 0) else (0, 120)) := by
  have hw : encode_word.f 3 = some (3942645760, true) := by decide +kernel
  simp only [encode_Encode.f, hw, Option.bind_some, if_true]
  have hf : Mk.fields ⟨3942645760, 3, rd, rn, rm, ra, imm, shift, cond, true⟩ = (let s : Mk := ⟨3942645760, 3, rd, rn, rm, ra, imm, shift, cond, true⟩; s.regs true true true) := by simp [Mk.fields]
  rw [hf]
  by_cases h : CR3 rd rn rm ra imm shift cond
  · rw [if_pos ((cleanR3 _ _ _ _ _ _ _ _ _).2 h), if_pos h, val3 _ _ _ _ _ _ _ _ h]
  · rw [if_neg (fun hc => h ((cleanR3 _ _ _ _ _ _ _ _ _).1 hc)), if_neg h]
theorem enc4 (rd rn rm ra imm shift cond : Int) : encode_Encode.f 4 rd rn rm ra imm shift cond = some (open Classical in if CRI rd rn rm ra imm shift cond then (VRI 2432696320 rd rn rm ra imm shift cond, 0) else (0, 120)) := by
  have hw : encode_word.f 4 = some (2432696320, true) := by decide +kernel
  simp only [encode_Encode.f, hw, Option.bind_some, if_true]
  have hf : Mk.fields ⟨2432696320, 4, rd, rn, rm, ra, imm, shift, cond, true⟩ = (let s : Mk := ⟨2432696320, 4, rd, rn, rm, ra, imm, shift, cond, true⟩; (s.regs true true false).putImm 4095 10) := by simp [Mk.fields]
  rw [hf]
  by_cases h : CRI rd rn rm ra imm shift cond
  · rw [if_pos ((cleanRI _ _ _ _ _ _ _ _ _).2 h), if_pos h, val4 _ _ _ _ _ _ _ _ h]
  · rw [if_neg (fun hc => h ((cleanRI _ _ _ _ _ _ _ _ _).1 hc)), if_neg h]
theorem enc5 (rd rn rm ra imm shift cond : Int) : encode_Encode.f 5 rd rn rm ra imm shift cond = some (open Classical in if CRI rd rn rm ra imm shift cond then (VRI 3506438144 rd rn rm ra imm shift cond, 0) else (0, 120)) := by
  have hw : encode_word.f 5 = some (3506438144, true) := by decide +kernel
  simp only [encode_Encode.f, hw, Option.bind_some, if_true]
  have hf : Mk.fields ⟨3506438144, 5, rd, rn, rm, ra, imm, shift, cond, true⟩ = (let s : Mk := ⟨3506438144, 5, rd, rn, rm, ra, imm, shift, cond, true⟩; (s.regs true true false).putImm 4095 10) := by simp [Mk.fields]
  rw [hf]
  by_cases h : CRI rd rn rm ra imm shift cond
  · rw [if_pos ((cleanRI _ _ _ _ _ _ _ _ _).2 h), if_pos h, val5 _ _ _ _ _ _ _ _ h]
  · rw [if_neg (fun hc => h ((cleanRI _ _ _ _ _ _ _ _ _).1 hc)), if_neg h]
theorem enc6 (rd rn rm ra imm shift cond : Int) : encode_Encode.f 6 rd rn rm ra imm shift cond = some (open Classical in if CRI rd rn rm ra imm shift cond then (VRI 4043309056 rd rn rm ra imm shift cond, 0) else (0, 120)) := by
  have hw : encode_word.f 6 = some (4043309056, true) := by decide +kernel
  simp only [encode_Encode.f, hw, Option.bind_some, if_true]
  have hf : Mk.fields ⟨4043309056, 6, rd, rn, rm, ra, imm, shift, cond, true⟩ = (let s : Mk := ⟨4043309056, 6, rd, rn, rm, ra, imm, shift, cond, true⟩; (s.regs true true false).putImm 4095 10) := by simp [Mk.fields]
  rw [hf]
  by_cases h : CRI rd rn rm ra imm shift cond
  · rw [if_pos ((cleanRI _ _ _ _ _ _ _ _ _).2 h), if_pos h, val6 _ _ _ _ _ _ _ _ h]
  · rw [if_neg (fun hc => h ((cleanRI _ _ _ _ _ _ _ _ _).1 hc)), if_neg h]
theorem enc7 (rd rn rm ra imm shift cond : Int) : encode_Encode.f 7 rd rn rm ra imm shift cond = some (open Classical in if CR3 rd rn rm ra imm shift cond then (VR3 2315255808 rd rn rm ra imm shift cond, 0) else (0, 120)) := by
  have hw : encode_word.f 7 = some (2315255808, true) := by decide +kernel
  simp only [encode_Encode.f, hw, Option.bind_some, if_true]
  have hf : Mk.fields ⟨2315255808, 7, rd, rn, rm, ra, imm, shift, cond, true⟩ = (let s : Mk := ⟨2315255808, 7, rd, rn, rm, ra, imm, shift, cond, true⟩; s.regs true true true) := by simp [Mk.fields]
  rw [hf]
  by_cases h : CR3 rd rn rm ra imm shift cond
  · rw [if_pos ((cleanR3 _ _ _ _ _ _ _ _ _).2 h), if_pos h, val7 _ _ _ _ _ _ _ _ h]
  · rw [if_neg (fun hc => h ((cleanR3 _ _ _ _ _ _ _ _ _).1 hc)), if_neg h]
theorem enc8 (rd rn rm ra imm shift cond : Int) : encode_Encode.f 8 rd rn rm ra imm shift cond = some (open Classical in if CR3 rd rn rm ra imm shift cond then (VR3 2852126720 rd rn rm ra imm shift cond, 0) else (0, 120)) := by
  have hw : encode_word.f 8 = some (2852126720, true) := by decide +kernel
  simp only [encode_Encode.f, hw, Option.bind_some, if_true]
  have hf : Mk.fields ⟨2852126720, 8, rd, rn, rm, ra, imm, shift, cond, true⟩ = (let s : Mk := ⟨2852126720, 8, rd, rn, rm, ra, imm, shift, cond, true⟩; s.regs true true true) := by simp [Mk.fields]
  rw [hf]
  by_cases h : CR3 rd rn rm ra imm shift cond
  · rw [if_pos ((cleanR3 _ _ _ _ _ _ _ _ _).2 h), if_pos h, val8 _ _ _ _ _ _ _ _ h]
  · rw [if_neg (fun hc => h ((cleanR3 _ _ _ _ _ _ _ _ _).1 hc)), if_neg h]
theorem enc9 (rd rn rm ra imm shift cond : Int) : encode_Encode.f 9 rd rn rm ra imm shift cond = some (open Classical in if CR3 rd rn rm ra imm shift cond then (VR3 3388997632 rd rn rm ra imm shift cond, 0) else (0, 120)) := by
  have hw : encode_word.f 9 = some (3388997632, true) := by decide +kernel
  simp only [encode_Encode.f, hw, Option.bind_some, if_true]
  have hf : Mk.fields ⟨3388997632, 9, rd, rn, rm, ra, imm, shift, cond, true⟩ = (let s : Mk := ⟨3388997632, 9, rd, rn, rm, ra, imm, shift, cond, true⟩; s.regs true true true) := by simp [Mk.fields]
  rw [hf]
  by_cases h : CR3 rd rn rm ra imm shift cond
  · rw [if_pos ((cleanR3 _ _ _ _ _ _ _ _ _).2 h), if_pos h, val9 _ _ _ _ _ _ _ _ h]
  · rw [if_neg (fun hc => h ((cleanR3 _ _ _ _ _ _ _ _ _).1 hc)), if_neg h]
theorem enc10 (rd rn rm ra imm shift cond : Int) : encode_Encode.f 10 rd rn rm ra imm shift cond = some (open Classical in if CR3 rd rn rm ra imm shift cond then (VR3 2854223872 rd rn rm ra imm shift cond, 0) else (0, 120)) := by
  have hw : encode_word.f 10 = some (2854223872, true) := by decide +kernel
  simp only [encode_Encode.f, hw, Option.bind_some, if_true]
  have hf : Mk.fields ⟨2854223872, 10, rd, rn, rm, ra, imm, shift, cond, true⟩ = (let s : Mk := ⟨2854223872, 10, rd, rn, rm, ra, imm, shift, cond, true⟩; s.regs true true true) := by simp [Mk.fields]
  rw [hf]
  by_cases h : CR3 rd rn rm ra imm shift cond
  · rw [if_pos ((cleanR3 _ _ _ _ _ _ _ _ _).2 h), if_pos h, val10 _ _ _ _ _ _ _ _ h]
  · rw [if_neg (fun hc => h ((cleanR3 _ _ _ _ _ _ _ _ _).1 hc)), if_neg h]
theorem enc11 (rd rn rm ra imm shift cond : Int) : encode_Encode.f 11 rd rn rm ra imm shift cond = some (open Classical in if CR4 rd rn rm ra imm shift cond then (VR4 2600468480 rd rn rm ra imm shift cond, 0) else (0, 120)) := by
  have hw : encode_word.f 11 = some (2600468480, true) := by decide +kernel
  simp only [encode_Encode.f, hw, Option.bind_some, if_true]
  have hf : Mk.fields ⟨2600468480, 11, rd, rn, rm, ra, imm, shift, cond, true⟩ = (let s : Mk := ⟨2600468480, 11, rd, rn, rm, ra, imm, shift, cond, true⟩; (s.regs true true true).putRa 31 10) := by simp [Mk.fields]
  rw [hf]
  by_cases h : CR4 rd rn rm ra imm shift cond
  · rw [if_pos ((cleanR4 _ _ _ _ _ _ _ _ _).2 h), if_pos h, val11 _ _ _ _ _ _ _ _ h]
  · rw [if_neg (fun hc => h ((cleanR4 _ _ _ _ _ _ _ _ _).1 hc)), if_neg h]
theorem enc12 (rd rn rm ra imm shift cond : Int) : encode_Encode.f 12 rd rn rm ra imm shift cond = some (open Classical in if CR4 rd rn rm ra imm shift cond then (VR4 2600501248 rd rn rm ra imm shift cond, 0) else (0, 120)) := by
  have hw : encode_word.f 12 = some (2600501248, true) := by decide +kernel
  simp only [encode_Encode.f, hw, Option.bind_some, if_true]
  have hf : Mk.fields ⟨2600501248, 12, rd, rn, rm, ra, imm, shift, cond, true⟩ = (let s : Mk := ⟨2600501248, 12, rd, rn, rm, ra, imm, shift, cond, true⟩; (s.regs true true true).putRa 31 10) := by simp [Mk.fields]
  rw [hf]
  by_cases h : CR4 rd rn rm ra imm shift cond
  · rw [if_pos ((cleanR4 _ _ _ _ _ _ _ _ _).2 h), if_pos h, val12 _ _ _ _ _ _ _ _ h]
  · rw [if_neg (fun hc => h ((cleanR4 _ _ _ _ _ _ _ _ _).1 hc)), if_neg h]
theorem enc13 (rd rn rm ra imm shift cond : Int) : encode_Encode.f 13 rd rn rm ra imm shift cond = some (open Classical in if CR3 rd rn rm ra imm shift cond then (VR3 2596277248 rd rn rm ra imm shift cond, 0) else (0, 120)) := by
  have hw : encode_word.f 13 = some (2596277248, true) := by decide +kernel
  simp only [encode_Encode.f, hw, Option.bind_some, if_true]
  have hf : Mk.fields ⟨2596277248, 13, rd, rn, rm, ra, imm, shift, cond, true⟩ = (let s : Mk := ⟨2596277248, 13, rd, rn, rm, ra, imm, shift, cond, true⟩; s.regs true true true) := by simp [Mk.fields]
  rw [hf]
  by_cases h : CR3 rd rn rm ra imm shift cond
  · rw [if_pos ((cleanR3 _ _ _ _ _ _ _ _ _).2 h), if_pos h, val13 _ _ _ _ _ _ _ _ h]
  · rw [if_neg (fun hc => h ((cleanR3 _ _ _ _ _ _ _ _ _).1 hc)), if_neg h]
theorem enc14 (rd rn rm ra imm shift cond : Int) : encode_Encode.f 14 rd rn rm ra imm shift cond = some (open Classical in if CR3 rd rn rm ra imm shift cond then (VR3 2596282368 rd rn rm ra imm shift cond, 0) else (0, 120)) := by
  have hw : encode_word.f 14 = some (2596282368, true) := by decide +kernel
  simp only [encode_Encode.f, hw, Option.bind_some, if_true]
  have hf : Mk.fields ⟨2596282368, 14, rd, rn, rm, ra, imm, shift, cond, true⟩ = (let s : Mk := ⟨2596282368, 14, rd, rn, rm, ra, imm, shift, cond, true⟩; s.regs true true true) := by simp [Mk.fields]
  rw [hf]
  by_cases h : CR3 rd rn rm ra imm shift cond
  · rw [if_pos ((cleanR3 _ _ _ _ _ _ _ _ _).2 h), if_pos h, val14 _ _ _ _ _ _ _ _ h]
  · rw [if_neg (fun hc => h ((cleanR3 _ _ _ _ _ _ _ _ _).1 hc)), if_neg h]
theorem enc15 (rd rn rm ra imm shift cond : Int) : encode_Encode.f 15 rd rn rm ra imm shift cond = some (open Classical in if CR3 rd rn rm ra imm shift cond then (VR3 2596284416 rd rn rm ra imm shift cond, 0) else (0, 120)) := by
  have hw : encode_word.f 15 = some (2596284416, true) := by decide +kernel
  simp only [encode_Encode.f, hw, Option.bind_some, if_true]
  have hf : Mk.fields ⟨2596284416, 15, rd, rn, rm, ra, imm, shift, cond, true⟩ = (let s : Mk := ⟨2596284416, 15, rd, rn, rm, ra, imm, shift, cond, true⟩; s.regs true true true) := by simp [Mk.fields]
  rw [hf]
  by_cases h : CR3 rd rn rm ra imm shift cond
  · rw [if_pos ((cleanR3 _ _ _ _ _ _ _ _ _).2 h), if_pos h, val15 _ _ _ _ _ _ _ _ h]
  · rw [if_neg (fun hc => h ((cleanR3 _ _ _ _ _ _ _ _ _).1 hc)), if_neg h]
theorem enc16 (rd rn rm ra imm shift cond : Int) : encode_Encode.f 16 rd rn rm ra imm shift cond = some (open Classical in if CMV rd rn rm ra imm shift cond then (VMV 3531603968 rd rn rm ra imm shift cond, 0) else (0, 120)) := by
  have hw : encode_word.f 16 = some (3531603968, true) := by decide +kernel
  simp only [encode_Encode.f, hw, Option.bind_some, if_true]
  have hf : Mk.fields ⟨3531603968, 16, rd, rn, rm, ra, imm, shift, cond, true⟩ = (let s : Mk := ⟨3531603968, 16, rd, rn, rm, ra, imm, shift, cond, true⟩; ((s.regs true false false).putImm 65535 5).putShift 3 21) := by simp [Mk.fields]
  rw [hf]
  by_cases h : CMV rd rn rm ra imm shift cond
  · rw [if_pos ((cleanMV _ _ _ _ _ _ _ _ _).2 h), if_pos h, val16 _ _ _ _ _ _ _ _ h]
  · rw [if_neg (fun hc => h ((cleanMV _ _ _ _ _ _ _ _ _).1 hc)), if_neg h]
theorem enc17 (rd rn rm ra imm shift cond : Int) : encode_Encode.f 17 rd rn rm ra imm shift cond = some (open Classical in if CMV rd rn rm ra imm shift cond then (VMV 4068474880 rd rn rm ra imm shift cond, 0) else (0, 120)) := by
  have hw : encode_word.f 17 = some (4068474880, true) := by decide +kernel
  simp only [encode_Encode.f, hw, Option.bind_some, if_true]
  have hf : Mk.fields ⟨4068474880, 17, rd, rn, rm, ra, imm, shift, cond, true⟩ = (let s : Mk := ⟨4068474880, 17, rd, rn, rm, ra, imm, shift, cond, true⟩; ((s.regs true false false).putImm 65535 5).putShift 3 21) := by simp [Mk.fields]
  rw [hf]
  by_cases h : CMV rd rn rm ra imm shift cond
  · rw [if_pos ((cleanMV _ _ _ _ _ _ _ _ _).2 h), if_pos h, val17 _ _ _ _ _ _ _ _ h]
  · rw [if_neg (fun hc => h ((cleanMV _ _ _ _ _ _ _ _ _).1 hc)), if_neg h]
theorem enc18 (rd rn rm ra imm shift cond : Int) : encode_Encode.f 18 rd rn rm ra imm shift cond = some (open Classical in if CMV rd rn rm ra imm shift cond then (VMV 2457862144 rd rn rm ra imm shift cond, 0) else (0, 120)) := by
  have hw : encode_word.f 18 = some (2457862144, true) := by decide +kernel
  simp only [encode_Encode.f, hw, Option.bind_some, if_true]
  have hf : Mk.fields ⟨2457862144, 18, rd, rn, rm, ra, imm, shift, cond, true⟩ = (let s : Mk := ⟨2457862144, 18, rd, rn, rm, ra, imm, shift, cond, true⟩; ((s.regs true false false).putImm 65535 5).putShift 3 21) := by simp [Mk.fields]
  rw [hf]
  by_cases h : CMV rd rn rm ra imm shift cond
  · rw [if_pos ((cleanMV _ _ _ _ _ _ _ _ _).2 h), if_pos h, val18 _ _ _ _ _ _ _ _ h]
  · rw [if_neg (fun hc => h ((cleanMV _ _ _ _ _ _ _ _ _).1 hc)), if_neg h]
theorem enc19 (rd rn rm ra imm shift cond : Int) : encode_Encode.f 19 rd rn rm ra imm shift cond = some (open Classical in if CRI rd rn rm ra imm shift cond then (VRI 4181721088 rd rn rm ra imm shift cond, 0) else (0, 120)) := by
  have hw : encode_word.f 19 = some (4181721088, true) := by decide +kernel
  simp only [encode_Encode.f, hw, Option.bind_some, if_true]
  have hf : Mk.fields ⟨4181721088, 19, rd, rn, rm, ra, imm, shift, cond, true⟩ = (let s : Mk := ⟨4181721088, 19, rd, rn, rm, ra, imm, shift, cond, true⟩; (s.regs true true false).putImm 4095 10) := by simp [Mk.fields]
  rw [hf]
  by_cases h : CRI rd rn rm ra imm shift cond
  · rw [if_pos ((cleanRI _ _ _ _ _ _ _ _ _).2 h), if_pos h, val19 _ _ _ _ _ _ _ _ h]
  · rw [if_neg (fun hc => h ((cleanRI _ _ _ _ _ _ _ _ _).1 hc)), if_neg h]
theorem enc20 (rd rn rm ra imm shift cond : Int) : encode_Encode.f 20 rd rn rm ra imm shift cond = some (open Classical in if CRI rd rn rm ra imm shift cond then (VRI 4177526784 rd rn rm ra imm shift cond, 0) else (0, 120)) := by
  have hw : encode_word.f 20 = some (4177526784, true) := by decide +kernel
  simp only [encode_Encode.f, hw, Option.bind_some, if_true]
  have hf : Mk.fields ⟨4177526784, 20, rd, rn, rm, ra, imm, shift, cond, true⟩ = (let s : Mk := ⟨4177526784, 20, rd, rn, rm, ra, imm, shift, cond, true⟩; (s.regs true true false).putImm 4095 10) := by simp [Mk.fields]
  rw [hf]
  by_cases h : CRI rd rn rm ra imm shift cond
  · rw [if_pos ((cleanRI _ _ _ _ _ _ _ _ _).2 h), if_pos h, val20 _ _ _ _ _ _ _ _ h]
  · rw [if_neg (fun hc => h ((cleanRI _ _ _ _ _ _ _ _ _).1 hc)), if_neg h]
theorem enc21 (rd rn rm ra imm shift cond : Int) : encode_Encode.f 21 rd rn rm ra imm shift cond = some (open Classical in if CCS rd rn rm ra imm shift cond then (VCS 2592079872 rd rn rm ra imm shift cond, 0) else (0, 120)) := by
  have hw : encode_word.f 21 = some (2592079872, true) := by decide +kernel
  simp only [encode_Encode.f, hw, Option.bind_some, if_true]
  have hf : Mk.fields ⟨2592079872, 21, rd, rn, rm, ra, imm, shift, cond, true⟩ = (let s : Mk := ⟨2592079872, 21, rd, rn, rm, ra, imm, shift, cond, true⟩; (s.regs true true true).putCond 15 12) := by simp [Mk.fields]
  rw [hf]
  by_cases h : CCS rd rn rm ra imm shift cond
  · rw [if_pos ((cleanCS _ _ _ _ _ _ _ _ _).2 h), if_pos h, val21 _ _ _ _ _ _ _ _ h]
  · rw [if_neg (fun hc => h ((cleanCS _ _ _ _ _ _ _ _ _).1 hc)), if_neg h]
theorem enc22 (rd rn rm ra imm shift cond : Int) : encode_Encode.f 22 rd rn rm ra imm shift cond = some (open Classical in if CCS rd rn rm ra imm shift cond then (VCS 2592080896 rd rn rm ra imm shift cond, 0) else (0, 120)) := by
  have hw : encode_word.f 22 = some (2592080896, true) := by decide +kernel
  simp only [encode_Encode.f, hw, Option.bind_some, if_true]
  have hf : Mk.fields ⟨2592080896, 22, rd, rn, rm, ra, imm, shift, cond, true⟩ = (let s : Mk := ⟨2592080896, 22, rd, rn, rm, ra, imm, shift, cond, true⟩; (s.regs true true true).putCond 15 12) := by simp [Mk.fields]
  rw [hf]
  by_cases h : CCS rd rn rm ra imm shift cond
  · rw [if_pos ((cleanCS _ _ _ _ _ _ _ _ _).2 h), if_pos h, val22 _ _ _ _ _ _ _ _ h]
  · rw [if_neg (fun hc => h ((cleanCS _ _ _ _ _ _ _ _ _).1 hc)), if_neg h]
theorem enc23 (rd rn rm ra imm shift cond : Int) : encode_Encode.f 23 rd rn rm ra imm shift cond = some (open Classical in if CBR rd rn rm ra imm shift cond then (VBR 335544320 rd rn rm ra imm shift cond, 0) else (0, 120)) := by
  have hw : encode_word.f 23 = some (335544320, true) := by decide +kernel
  simp only [encode_Encode.f, hw, Option.bind_some, if_true]
  have hf : Mk.fields ⟨335544320, 23, rd, rn, rm, ra, imm, shift, cond, true⟩ = (let s : Mk := ⟨335544320, 23, rd, rn, rm, ra, imm, shift, cond, true⟩; s.put26) := by simp [Mk.fields]
  rw [hf]
  by_cases h : CBR rd rn rm ra imm shift cond
  · rw [if_pos ((cleanBR _ _ _ _ _ _ _ _ _).2 h), if_pos h, val23 _ _ _ _ _ _ _ _ h]
  · rw [if_neg (fun hc => h ((cleanBR _ _ _ _ _ _ _ _ _).1 hc)), if_neg h]
theorem enc24 (rd rn rm ra imm shift cond : Int) : encode_Encode.f 24 rd rn rm ra imm shift cond = some (open Classical in if CBR rd rn rm ra imm shift cond then (VBR 2483027968 rd rn rm ra imm shift cond, 0) else (0, 120)) := by
  have hw : encode_word.f 24 = some (2483027968, true) := by decide +kernel
  simp only [encode_Encode.f, hw, Option.bind_some, if_true]
  have hf : Mk.fields ⟨2483027968, 24, rd, rn, rm, ra, imm, shift, cond, true⟩ = (let s : Mk := ⟨2483027968, 24, rd, rn, rm, ra, imm, shift, cond, true⟩; s.put26) := by simp [Mk.fields]
  rw [hf]
  by_cases h : CBR rd rn rm ra imm shift cond
  · rw [if_pos ((cleanBR _ _ _ _ _ _ _ _ _).2 h), if_pos h, val24 _ _ _ _ _ _ _ _ h]
  · rw [if_neg (fun hc => h ((cleanBR _ _ _ _ _ _ _ _ _).1 hc)), if_neg h]
theorem enc25 (rd rn rm ra imm shift cond : Int) : encode_Encode.f 25 rd rn rm ra imm shift cond = some (open Classical in if CWH rd rn rm ra imm shift cond then (VWH 1409286144 rd rn rm ra imm shift cond, 0) else (0, 120)) := by
  have hw : encode_word.f 25 = some (1409286144, true) := by decide +kernel
  simp only [encode_Encode.f, hw, Option.bind_some, if_true]
  have hf : Mk.fields ⟨1409286144, 25, rd, rn, rm, ra, imm, shift, cond, true⟩ = (let s : Mk := ⟨1409286144, 25, rd, rn, rm, ra, imm, shift, cond, true⟩; (s.putCond 15 0).put19) := by simp [Mk.fields]
  rw [hf]
  by_cases h : CWH rd rn rm ra imm shift cond
  · rw [if_pos ((cleanWH _ _ _ _ _ _ _ _ _).2 h), if_pos h, val25 _ _ _ _ _ _ _ _ h]
  · rw [if_neg (fun hc => h ((cleanWH _ _ _ _ _ _ _ _ _).1 hc)), if_neg h]
theorem enc26 (rd rn rm ra imm shift cond : Int) : encode_Encode.f 26 rd rn rm ra imm shift cond = some (open Classical in if CZR rd rn rm ra imm shift cond then (VZR 3019898880 rd rn rm ra imm shift cond, 0) else (0, 120)) := by
  have hw : encode_word.f 26 = some (3019898880, true) := by decide +kernel
  simp only [encode_Encode.f, hw, Option.bind_some, if_true]
  have hf : Mk.fields ⟨3019898880, 26, rd, rn, rm, ra, imm, shift, cond, true⟩ = (let s : Mk := ⟨3019898880, 26, rd, rn, rm, ra, imm, shift, cond, true⟩; (s.regs true false false).put19) := by simp [Mk.fields]
  rw [hf]
  by_cases h : CZR rd rn rm ra imm shift cond
  · rw [if_pos ((cleanZR _ _ _ _ _ _ _ _ _).2 h), if_pos h, val26 _ _ _ _ _ _ _ _ h]
  · rw [if_neg (fun hc => h ((cleanZR _ _ _ _ _ _ _ _ _).1 hc)), if_neg h]
theorem enc27 (rd rn rm ra imm shift cond : Int) : encode_Encode.f 27 rd rn rm ra imm shift cond = some (open Classical in if CZR rd rn rm ra imm shift cond then (VZR 3036676096 rd rn rm ra imm shift cond, 0) else (0, 120)) := by
  have hw : encode_word.f 27 = some (3036676096, true) := by decide +kernel
  simp only [encode_Encode.f, hw, Option.bind_some, if_true]
  have hf : Mk.fields ⟨3036676096, 27, rd, rn, rm, ra, imm, shift, cond, true⟩ = (let s : Mk := ⟨3036676096, 27, rd, rn, rm, ra, imm, shift, cond, true⟩; (s.regs true false false).put19) := by simp [Mk.fields]
  rw [hf]
  by_cases h : CZR rd rn rm ra imm shift cond
  · rw [if_pos ((cleanZR _ _ _ _ _ _ _ _ _).2 h), if_pos h, val27 _ _ _ _ _ _ _ _ h]
  · rw [if_neg (fun hc => h ((cleanZR _ _ _ _ _ _ _ _ _).1 hc)), if_neg h]
theorem enc28 (rd rn rm ra imm shift cond : Int) : encode_Encode.f 28 rd rn rm ra imm shift cond = some (open Classical in if CRT rd rn rm ra imm shift cond then (VRT 3596550144 rd rn rm ra imm shift cond, 0) else (0, 120)) := by
  have hw : encode_word.f 28 = some (3596550144, true) := by decide +kernel
  simp only [encode_Encode.f, hw, Option.bind_some, if_true]
  have hf : Mk.fields ⟨3596550144, 28, rd, rn, rm, ra, imm, shift, cond, true⟩ = (let s : Mk := ⟨3596550144, 28, rd, rn, rm, ra, imm, shift, cond, true⟩; s.regs false true false) := by simp [Mk.fields]
  rw [hf]
  by_cases h : CRT rd rn rm ra imm shift cond
  · rw [if_pos ((cleanRT _ _ _ _ _ _ _ _ _).2 h), if_pos h, val28 _ _ _ _ _ _ _ _ h]
  · rw [if_neg (fun hc => h ((cleanRT _ _ _ _ _ _ _ _ _).1 hc)), if_neg h]
theorem enc29 (rd rn rm ra imm shift cond : Int) : encode_Encode.f 29 rd rn rm ra imm shift cond = some (open Classical in if CSV rd rn rm ra imm shift cond then (VSV 3556769793 rd rn rm ra imm shift cond, 0) else (0, 120)) := by
  have hw : encode_word.f 29 = some (3556769793, true) := by decide +kernel
  simp only [encode_Encode.f, hw, Option.bind_some, if_true]
  have hf : Mk.fields ⟨3556769793, 29, rd, rn, rm, ra, imm, shift, cond, true⟩ = (let s : Mk := ⟨3556769793, 29, rd, rn, rm, ra, imm, shift, cond, true⟩; s.putImm 65535 5) := by simp [Mk.fields]
  rw [hf]
  by_cases h : CSV rd rn rm ra imm shift cond
  · rw [if_pos ((cleanSV _ _ _ _ _ _ _ _ _).2 h), if_pos h, val29 _ _ _ _ _ _ _ _ h]
  · rw [if_neg (fun hc => h ((cleanSV _ _ _ _ _ _ _ _ _).1 hc)), if_neg h]
theorem enc30 (rd rn rm ra imm shift cond : Int) : encode_Encode.f 30 rd rn rm ra imm shift cond = some (open Classical in if CSV rd rn rm ra imm shift cond then (VSV 3558866944 rd rn rm ra imm shift cond, 0) else (0, 120)) := by
  have hw : encode_word.f 30 = some (3558866944, true) := by decide +kernel
  simp only [encode_Encode.f, hw, Option.bind_some, if_true]
  have hf : Mk.fields ⟨3558866944, 30, rd, rn, rm, ra, imm, shift, cond, true⟩ = (let s : Mk := ⟨3558866944, 30, rd, rn, rm, ra, imm, shift, cond, true⟩; s.putImm 65535 5) := by simp [Mk.fields]
  rw [hf]
  by_cases h : CSV rd rn rm ra imm shift cond
  · rw [if_pos ((cleanSV _ _ _ _ _ _ _ _ _).2 h), if_pos h, val30 _ _ _ _ _ _ _ _ h]
  · rw [if_neg (fun hc => h ((cleanSV _ _ _ _ _ _ _ _ _).1 hc)), if_neg h]
theorem enc31 (rd rn rm ra imm shift cond : Int) : encode_Encode.f 31 rd rn rm ra imm shift cond = some (open Classical in if CST rd rn rm ra imm shift cond then (VST 3573751839 rd rn rm ra imm shift cond, 0) else (0, 120)) := by
  have hw : encode_word.f 31 = some (3573751839, true) := by decide +kernel
  simp only [encode_Encode.f, hw, Option.bind_some, if_true]
  have hf : Mk.fields ⟨3573751839, 31, rd, rn, rm, ra, imm, shift, cond, true⟩ = (let s : Mk := ⟨3573751839, 31, rd, rn, rm, ra, imm, shift, cond, true⟩; s) := by simp [Mk.fields]
  rw [hf]
  by_cases h : CST rd rn rm ra imm shift cond
  · rw [if_pos ((cleanST _ _ _ _ _ _ _ _ _).2 h), if_pos h, val31 _ _ _ _ _ _ _ _ h]
  · rw [if_neg (fun hc => h ((cleanST _ _ _ _ _ _ _ _ _).1 hc)), if_neg h]
theorem enc_none (op rd rn rm ra imm shift cond : Int) (h : op < 1 ∨ 31 < op) : encode_Encode.f op rd rn rm ra imm shift cond = some (0, 120) := by
  have hw : encode_word.f op = some (0, false) := by
    unfold encode_word.f encode_other.f
    repeat (rw [if_neg (by omega)])
    rfl
  simp only [encode_Encode.f, hw, Option.bind_some, Bool.false_eq_true, if_false]
end Go.Proofs.Ytndedmkjmahohaa.A64
