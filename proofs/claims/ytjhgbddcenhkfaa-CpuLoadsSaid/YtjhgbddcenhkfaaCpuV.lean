/- What encode.Load says puts any number into any register: plain; no statement of the seat. -/
import Derived.Test.YtjhgbddcenhkfaaCpuU
import Derived.Test.YtjhgbddcenhkfaaPF32
set_option linter.unusedVariables false
set_option linter.unusedSimpArgs false
namespace Go.Proofs.Ytjhgbddcenhkfaa.P
open Go.RowKit Go.Proofs.YtjhgbddcenhkfaaW.PrintWords Go.Proofs.YtjhgbddcenhkfaaW.PrintLast Go.Proofs.YtjhgbddcenhkfaaW.PrintMore
/-! ### All words of instructions that may be -/
theorem all_go (L : List Ins) (hL : L.length < 100000) : ∀ (d k i : Nat) (l : List Ins) (acc : List Int), L = L.take i ++ l → i + d = L.length → l.length = d → acc.length = i → (∀ x ∈ l, ∃ W, encode_Encode.f x.f0 x.f1 x.f2 x.f3 x.f4 x.f5 x.f6 x.f7 = some (W, 0)) →
    ∃ ws, encode_All.l0 (d + 1 + k) acc L (L.length : Int) (i : Int) = some (acc ++ ws, 0, ((acc ++ ws).length : Int)) ∧ ws.map (fun u => (dcd u).1) = l
  | 0, k, i, l, acc, hl, hi, hd, ha, hx => by
    obtain rfl := List.eq_nil_of_length_eq_zero hd
    refine ⟨[], ?_, rfl⟩
    rw [show 0 + 1 + k = k + 1 by omega, encode_All.l0, if_neg (by omega), List.append_nil]
  | d + 1, k, i, l, acc, hl, hi, hd, ha, hx => by
    match l, hd with
    | x :: l', hd =>
      obtain ⟨W, hW⟩ := hx x (List.mem_cons_self ..)
      have hrd : rd_T61 L (i : Int) = x := by
        unfold rd_T61
        have hti : (L.take i).length = i := by rw [List.length_take]; omega
        rw [Int.toNat_natCast, List.getD_eq_getElem?_getD, hl, List.getElem?_append_right (by omega), hti, Nat.sub_self]
        rfl
      have hw : wrap64 ((i : Int) + 1) = ((i + 1 : Nat) : Int) := by unfold wrap64; omega
      have hl' : L = L.take (i + 1) ++ l' := by
        have e : L.drop i = x :: l' := by
          have h2 := List.take_append_drop i L
          rw [hl] at h2
          have hti : (L.take i).length = i := by rw [List.length_take]; omega
          conv => lhs; rw [hl]
          rw [List.drop_append_of_le_length (by omega), List.drop_eq_nil_of_le (by omega)]
          rfl
        have h3 : L.drop (i + 1) = l' := by
          rw [← List.drop_drop, e]
          rfl
        rw [← h3, List.take_append_drop]
      obtain ⟨ws, h1, h2⟩ := all_go L hL d k (i + 1) l' (acc ++ [W]) hl' (by omega) (by simpa using hd) (by simp [ha]) (fun y hy => hx y (List.mem_cons_of_mem _ hy))
      refine ⟨W :: ws, ?_, ?_⟩
      · rw [show d + 1 + 1 + k = (d + 1 + k) + 1 by omega, encode_All.l0, if_pos (by omega), if_pos (by omega), if_pos (by omega), hrd, hW, Option.bind_some, if_pos rfl, if_pos (by omega), hw, h1]
        simp
      · rw [List.map_cons, h2, dcd_enc x W hW]
theorem all_words (L : List Ins) (hL : L.length < 100000) (hx : ∀ x ∈ L, ∃ W, encode_Encode.f x.f0 x.f1 x.f2 x.f3 x.f4 x.f5 x.f6 x.f7 = some (W, 0)) : ∃ ws, encode_All.f (L.length + 1) L = some (ws, 0, (ws.length : Int)) ∧ ws.map (fun u => (dcd u).1) = L := by
  obtain ⟨ws, h1, h2⟩ := all_go L hL L.length 0 0 L [] (by simp) (by omega) rfl rfl hx
  refine ⟨ws, ?_, h2⟩
  unfold encode_All.f
  simpa using h1
/-! ### Numbers by their bits -/
def bv (x : Int) : BitVec 64 := BitVec.ofInt 64 x
theorem ofI_w (z : BitVec 64) : BitVec.ofInt 64 (IntKind.i64.wrap (z.toNat : Int)) = z := by
  apply BitVec.eq_of_toNat_eq
  rw [BitVec.toNat_ofInt, IntKind.wrap_i64]
  have := z.isLt
  omega
theorem bv_or (x y : Int) : bv (bits .or .i64 x y) = bv x ||| bv y := ofI_w _
theorem bv_andNot (x y : Int) : bv (bits .andNot .i64 x y) = bv x &&& ~~~ bv y := ofI_w _
theorem bv_xor (x y : Int) : bv (bits .xor .i64 x y) = bv x ^^^ bv y := ofI_w _
theorem bv_and (x y : Int) : bv (bits .and .i64 x y) = bv x &&& bv y := ofI_w _
theorem bv_wrap (x : Int) : bv (wrap64 x) = bv x := by
  apply BitVec.eq_of_toNat_eq
  unfold bv
  rw [BitVec.toNat_ofInt, BitVec.toNat_ofInt]
  unfold wrap64
  omega
theorem bv_nat (m i : Nat) (hi : i < 64) : (bv (m : Int)).getLsbD i = m.testBit i := by
  have h : (bv (m : Int)).toNat = m % 2 ^ 64 := by
    unfold bv
    rw [BitVec.toNat_ofInt]
    omega
  unfold BitVec.getLsbD
  rw [h, Nat.testBit_mod_two_pow]
  simp [hi]
theorem bv_shift (p k i : Nat) (hi : i < 64) : (bv (wrap64 ((p : Int) * 2 ^ k))).getLsbD i = (decide (k ≤ i) && p.testBit (i - k)) := by
  rw [bv_wrap]
  have e : (p : Int) * 2 ^ k = ((p * 2 ^ k : Nat) : Int) := by push_cast; rfl
  rw [e, bv_nat _ _ hi, Nat.testBit_mul_two_pow]
theorem bv_inj {x y : Int} (hx0 : -9223372036854775808 ≤ x) (hx1 : x < 9223372036854775808) (hy0 : -9223372036854775808 ≤ y) (hy1 : y < 9223372036854775808) (h : ∀ i, i < 64 → (bv x).getLsbD i = (bv y).getLsbD i) : x = y := by
  have h1 : bv x = bv y := BitVec.eq_of_getLsbD_eq h
  have h2 := congrArg BitVec.toNat h1
  unfold bv at h2
  rw [BitVec.toNat_ofInt, BitVec.toNat_ofInt] at h2
  omega
/-- The pieces of a number. -/
def pc (n : Int) (k : Nat) : Nat := (bv n).toNat / 2 ^ (16 * k) % 2 ^ 16
theorem pc_bit (n : Int) (k j : Nat) : (pc n k).testBit j = (decide (j < 16) && (bv n).getLsbD (16 * k + j)) := by
  unfold pc
  rw [Nat.testBit_mod_two_pow, Nat.testBit_div_two_pow, Nat.add_comm]
  rfl
theorem and16 (x : Int) : bits .and .i64 x 65535 = x % 65536 := by
  have h63 : (BitVec.ofInt 64 65535).toNat = 2 ^ 16 - 1 := by decide
  have hb : (BitVec.ofInt 64 x &&& BitVec.ofInt 64 65535).toNat = (x % 18446744073709551616).toNat % 65536 := by
    rw [BitVec.toNat_and, h63, Nat.and_two_pow_sub_one_eq_mod, BitVec.toNat_ofInt]
    rfl
  show IntKind.i64.wrap ((BitVec.ofInt 64 x &&& BitVec.ofInt 64 65535).toNat : Int) = x % 65536
  rw [hb, IntKind.wrap_i64]
  omega
theorem piece_pc (n : Int) (k : Nat) (hk : k < 4) : load_piece n k = (pc n k : Int) := by
  unfold load_piece
  rw [and16]
  have h : (bv n).toNat = (n % 18446744073709551616).toNat := by unfold bv; rw [BitVec.toNat_ofInt]; rfl
  unfold pc
  rw [h]
  have hc : k = 0 ∨ k = 1 ∨ k = 2 ∨ k = 3 := by omega
  rcases hc with rfl | rfl | rfl | rfl <;> simp only [Nat.mul_zero, Nat.mul_one, Nat.reduceMul, Nat.reducePow, Int.reducePow, Int.natCast_emod] <;> omega
theorem pc_lt (n : Int) (k : Nat) : pc n k < 65536 := Nat.mod_lt _ (by decide)
/-! ### What the instructions come to, bit by bit -/
/-- Below a piece the number's bits, from there on ones or zeros. -/
def upTo (n : Int) (e : Bool) (k : Nat) (v : Int) : Prop := ∀ i, i < 64 → (bv v).getLsbD i = if i < 16 * k then (bv n).getLsbD i else e
def emp (e : Bool) : Int := if e = true then 65535 else 0
def fop (e : Bool) : Int := if e = true then 18 else 16
/-- Those pieces say nothing. -/
def mute (n : Int) (e : Bool) (k : Nat) : Prop := ∀ i, i < 16 * k → i < 64 → (bv n).getLsbD i = e
theorem mute_next {n : Int} {e : Bool} {k : Nat} (h : mute n e k) (hp : (pc n k : Int) = emp e) : mute n e (k + 1) := by
  intro i hi h64
  by_cases hlt : i < 16 * k
  · exact h i hlt h64
  have hb := pc_bit n k (i - 16 * k)
  rw [show 16 * k + (i - 16 * k) = i by omega, decide_eq_true (show i - 16 * k < 16 by omega), Bool.true_and] at hb
  rw [← hb]
  cases e
  · have : pc n k = 0 := by unfold emp at hp; simp at hp; exact hp
    rw [this, Nat.zero_testBit]
  · have : pc n k = 2 ^ 16 - 1 := by unfold emp at hp; simp at hp; omega
    rw [this, Nat.testBit_two_pow_sub_one, decide_eq_true (by omega)]
theorem movk_up {n : Int} {e : Bool} {k : Nat} {v : Int} (h : upTo n e k v) :
    upTo n e (k + 1) (bits .or .i64 (bits .andNot .i64 v (wrap64 (65535 * 2 ^ (16 * k)))) (wrap64 ((pc n k : Int) * 2 ^ (16 * k)))) := by
  intro i hi
  rw [bv_or, bv_andNot, BitVec.getLsbD_or, BitVec.getLsbD_and, BitVec.getLsbD_not, decide_eq_true hi, Bool.true_and, h i hi]
  have h1 := bv_shift (2 ^ 16 - 1) (16 * k) i hi
  rw [Nat.testBit_two_pow_sub_one] at h1
  have h1' : (bv (wrap64 (65535 * 2 ^ (16 * k)))).getLsbD i = (decide (16 * k ≤ i) && decide (i - 16 * k < 16)) := h1
  rw [h1', bv_shift _ _ _ hi, pc_bit]
  by_cases h2 : i < 16 * k
  · rw [if_pos h2, if_pos (by omega), decide_eq_false (show ¬ 16 * k ≤ i by omega)]
    simp
  · rw [if_neg h2, decide_eq_true (show 16 * k ≤ i by omega), show 16 * k + (i - 16 * k) = i by omega]
    by_cases h3 : i < 16 * (k + 1)
    · rw [if_pos h3, decide_eq_true (show i - 16 * k < 16 by omega)]
      simp
    · rw [if_neg h3, decide_eq_false (show ¬ i - 16 * k < 16 by omega)]
      simp
theorem movz_up {n : Int} {k : Nat} (h : mute n false k) : upTo n false (k + 1) (wrap64 ((pc n k : Int) * 2 ^ (16 * k))) := by
  intro i hi
  rw [bv_shift _ _ _ hi, pc_bit]
  by_cases h2 : i < 16 * k
  · rw [if_pos (by omega), decide_eq_false (show ¬ 16 * k ≤ i by omega), h i h2 hi, Bool.false_and]
  · rw [decide_eq_true (show 16 * k ≤ i by omega), show 16 * k + (i - 16 * k) = i by omega]
    by_cases h3 : i < 16 * (k + 1)
    · rw [if_pos h3, decide_eq_true (show i - 16 * k < 16 by omega)]
      simp
    · rw [if_neg h3, decide_eq_false (show ¬ i - 16 * k < 16 by omega)]
      simp
/-- A piece turned over. -/
def npc (n : Int) (k : Nat) : Nat := 65535 - pc n k
theorem npc_bit (n : Int) (k j : Nat) (hj : j < 16) : (npc n k).testBit j = !(bv n).getLsbD (16 * k + j) := by
  unfold npc
  have hl := pc_lt n k
  have h := Nat.testBit_two_pow_sub_succ (n := 16) (x := pc n k) (by omega) j
  rw [show 2 ^ 16 - (pc n k + 1) = 65535 - pc n k by omega] at h
  rw [h, pc_bit, decide_eq_true hj]
  simp
theorem npc_high (n : Int) (k j : Nat) (hj : ¬ j < 16) : (npc n k).testBit j = false :=
  Nat.testBit_lt_two_pow (Nat.lt_of_lt_of_le (show npc n k < 2 ^ 16 by unfold npc; omega) (Nat.pow_le_pow_right (by decide) (by omega)))
theorem movn_up {n : Int} {k : Nat} (h : mute n true k) : upTo n true (k + 1) (bits .xor .i64 (-1) (wrap64 ((npc n k : Int) * 2 ^ (16 * k)))) := by
  intro i hi
  have hm : (bv (-1)).getLsbD i = true := by
    have e : bv (-1) = BitVec.allOnes 64 := by decide
    rw [e, BitVec.getLsbD_allOnes, decide_eq_true hi]
  rw [bv_xor, BitVec.getLsbD_xor, hm, bv_shift _ _ _ hi]
  by_cases h2 : i < 16 * k
  · rw [if_pos (by omega), decide_eq_false (show ¬ 16 * k ≤ i by omega), h i h2 hi]
    simp
  · rw [decide_eq_true (show 16 * k ≤ i by omega)]
    by_cases h3 : i < 16 * (k + 1)
    · rw [if_pos h3, npc_bit _ _ _ (show i - 16 * k < 16 by omega), show 16 * k + (i - 16 * k) = i by omega]
      simp
    · rw [if_neg h3, npc_high _ _ _ (show ¬ i - 16 * k < 16 by omega)]
      simp
theorem xor_emp (n : Int) (e : Bool) (k : Nat) : bits .xor .i64 (pc n k : Int) (emp e) = if e = true then (npc n k : Int) else (pc n k : Int) := by
  have hl := pc_lt n k
  have hx : ∀ m : Nat, m < 65536 → bits .xor .i64 (pc n k : Int) (m : Int) = ((pc n k ^^^ m : Nat) : Int) := by
    intro m hm
    show IntKind.i64.wrap ((BitVec.ofInt 64 (pc n k : Int) ^^^ BitVec.ofInt 64 (m : Int)).toNat : Int) = _
    rw [BitVec.toNat_xor, BitVec.toNat_ofInt, BitVec.toNat_ofInt]
    have e1 : ((pc n k : Int) % (2 ^ 64 : Nat)).toNat = pc n k := by omega
    have e2 : ((m : Int) % (2 ^ 64 : Nat)).toNat = m := by omega
    rw [e1, e2, IntKind.wrap_i64]
    have : pc n k ^^^ m < 2 ^ 16 := Nat.xor_lt_two_pow (by omega) (by omega)
    omega
  cases e
  · have := hx 0 (by omega)
    rw [Nat.xor_zero] at this
    exact this
  · have h1 := hx 65535 (by omega)
    show bits .xor .i64 (pc n k : Int) 65535 = (npc n k : Int)
    have h2 : pc n k ^^^ 65535 = npc n k := by
      apply Nat.eq_of_testBit_eq
      intro j
      rw [Nat.testBit_xor, show (65535 : Nat) = 2 ^ 16 - 1 by decide, Nat.testBit_two_pow_sub_one]
      by_cases hj : j < 16
      · rw [npc_bit _ _ _ hj, pc_bit, decide_eq_true hj]
        simp
      · rw [npc_high _ _ _ hj, pc_bit, decide_eq_false hj]
        simp
    rw [← h2]
    exact h1
theorem upTo_skip {n : Int} {e : Bool} {k : Nat} {v : Int} (h : upTo n e k v) (hp : (pc n k : Int) = emp e) : upTo n e (k + 1) v := by
  intro i hi
  rw [h i hi]
  by_cases h2 : i < 16 * k
  · rw [if_pos h2, if_pos (by omega)]
  · rw [if_neg h2]
    by_cases h3 : i < 16 * (k + 1)
    · rw [if_pos h3]
      have hb := pc_bit n k (i - 16 * k)
      rw [show 16 * k + (i - 16 * k) = i by omega, decide_eq_true (show i - 16 * k < 16 by omega), Bool.true_and] at hb
      rw [← hb]
      cases e
      · have : pc n k = 0 := by unfold emp at hp; simp at hp; exact hp
        rw [this, Nat.zero_testBit]
      · have : pc n k = 2 ^ 16 - 1 := by unfold emp at hp; simp at hp; omega
        rw [this, Nat.testBit_two_pow_sub_one, decide_eq_true (by omega)]
    · rw [if_neg h3]
/-! ### The instructions of encode.Load, done -/
theorem wrap_rng (x : Int) : -9223372036854775808 ≤ wrap64 x ∧ wrap64 x < 9223372036854775808 := by unfold wrap64; omega
theorem bits_rng (z : BitVec 64) : -9223372036854775808 ≤ IntKind.i64.wrap (z.toNat : Int) ∧ IntKind.i64.wrap (z.toNat : Int) < 9223372036854775808 := by rw [IntKind.wrap_i64]; omega
structure isLoad (rd : Int) (x : Ins) : Prop where
  op : x.f0 = 16 ∨ x.f0 = 17 ∨ x.f0 = 18
  f1 : x.f1 = rd
  f2 : x.f2 = 0
  f3 : x.f3 = 0
  f4 : x.f4 = 0
  f5 : 0 ≤ x.f5 ∧ x.f5 ≤ 65535
  f6 : 0 ≤ x.f6 ∧ x.f6 ≤ 3
  f7 : x.f7 = 0
theorem isLoad.enc {rd : Int} {x : Ins} (h : isLoad rd x) (h0 : 0 ≤ rd) (h1 : rd ≤ 30) : ∃ W, encode_Encode.f x.f0 x.f1 x.f2 x.f3 x.f4 x.f5 x.f6 x.f7 = some (W, 0) := by
  obtain ⟨a, b, c, d, e, f, g⟩ := x
  obtain ⟨ho, rfl, rfl, rfl, rfl, h5, h6, rfl⟩ := h
  dsimp only at *
  rcases ho with rfl | rfl | rfl
  · refine ⟨A64.VMV 3531603968 b 0 0 0 f g 0, (A64.enc16 _ _ _ _ _ _ _).trans ?_⟩
    rw [if_pos (by unfold A64.CMV; omega)]
  · refine ⟨A64.VMV 4068474880 b 0 0 0 f g 0, (A64.enc17 _ _ _ _ _ _ _).trans ?_⟩
    rw [if_pos (by unfold A64.CMV; omega)]
  · refine ⟨A64.VMV 2457862144 b 0 0 0 f g 0, (A64.enc18 _ _ _ _ _ _ _).trans ?_⟩
    rw [if_pos (by unfold A64.CMV; omega)]
theorem isLoad.plain {rd : Int} {x : Ins} (h : isLoad rd x) : plainI x := by
  have := h.op
  unfold plainI
  omega
/-- What a register holds behind one of them. -/
def valL (v : Int) (x : Ins) : Int :=
  if x.f0 = 16 then wrap64 (x.f5 * 2 ^ (16 * x.f6).toNat)
  else if x.f0 = 17 then bits .or .i64 (bits .andNot .i64 v (wrap64 (65535 * 2 ^ (16 * x.f6).toNat))) (wrap64 (x.f5 * 2 ^ (16 * x.f6).toNat))
  else bits .xor .i64 (-1) (wrap64 (x.f5 * 2 ^ (16 * x.f6).toNat))
theorem valL_rng (v : Int) (x : Ins) : -9223372036854775808 ≤ valL v x ∧ valL v x < 9223372036854775808 := by
  unfold valL
  split
  · exact wrap_rng _
  split
  · exact bits_rng _
  · exact bits_rng _
theorem doI_load (s0 : CS) (rd : Int) (h0 : 0 ≤ rd) (h1 : rd ≤ 30) (hl : s0.x.length = 32) (v q : Int) (x : Ins) (hx : isLoad rd x) :
    doI { s0 with x := s0.x.set rd.toNat v, pl := q } x = { s0 with x := s0.x.set rd.toNat (valL v x), pl := wrap64 (q + 1) } := by
  have hg : getC { s0 with x := s0.x.set rd.toNat v, pl := q } rd = v := by
    unfold getC
    rw [if_neg (by omega), List.getD_eq_getElem?_getD, List.getElem?_set_self (by omega)]
    rfl
  have hr : (reckC { s0 with x := s0.x.set rd.toNat v, pl := q } x).1 = valL v x := by
    have ho := hx.op
    unfold reckC valL
    rw [hx.f1, hg]
    rcases ho with h | h | h <;> simp [h]
  unfold doI putC
  rw [hr, hx.f1, if_neg (by omega)]
  dsimp only
  rw [List.set_set]
theorem doI_first (s0 : CS) (rd : Int) (h0 : 0 ≤ rd) (h1 : rd ≤ 30) (hl : s0.x.length = 32) (x : Ins) (hx : isLoad rd x) :
    doI s0 x = { s0 with x := s0.x.set rd.toNat (valL (s0.x.getD rd.toNat 0) x), pl := wrap64 (s0.pl + 1) } := by
  have h := doI_load s0 rd h0 h1 hl (s0.x.getD rd.toNat 0) s0.pl x hx
  have e : s0.x.set rd.toNat (s0.x.getD rd.toNat 0) = s0.x := by
    apply List.ext_getElem?
    intro i
    by_cases hi : rd.toNat = i
    · subst hi
      rw [List.getElem?_set_self (by omega), List.getD_eq_getElem?_getD, List.getElem?_eq_getElem (by omega)]
      rfl
    · rw [List.getElem?_set_ne hi]
  rw [e] at h
  exact h
section
variable (s0 : CS) (rd n : Int) (e : Bool) (h0 : 0 ≤ rd) (h1 : rd ≤ 30) (hl : s0.x.length = 32)
def LoadOK (k : Nat) (out : List Ins) : Prop :=
  (∀ x ∈ out, isLoad rd x) ∧ ((out = [] ∧ mute n e k) ∨ (out ≠ [] ∧ ∃ v q, out.foldl doI s0 = { s0 with x := s0.x.set rd.toNat v, pl := q } ∧ upTo n e k v ∧ -9223372036854775808 ≤ v ∧ v < 9223372036854775808))
include h0 h1 hl
theorem item_first (p : Nat) (hp : p < 65536) (shift : Nat) (hs : shift ≤ 3) (out : List Ins) (ho : out = []) (q : Nat) (hq : q < 65536) (hx : bits .xor .i64 (p : Int) (emp e) = (q : Int)) :
    isLoad rd (load_item rd (fop e) (emp e) (p : Int) (shift : Int) out) ∧ [load_item rd (fop e) (emp e) (p : Int) (shift : Int) out].foldl doI s0 = { s0 with x := s0.x.set rd.toNat (if e = true then bits .xor .i64 (-1) (wrap64 ((q : Int) * 2 ^ (16 * shift))) else wrap64 ((q : Int) * 2 ^ (16 * shift))), pl := wrap64 (s0.pl + 1) } := by
  have hi : load_item rd (fop e) (emp e) (p : Int) (shift : Int) out = ⟨fop e, rd, 0, 0, 0, (q : Int), (shift : Int), 0⟩ := by
    unfold load_item
    rw [if_pos (by rw [ho]; rfl), hx]
  have hL : isLoad rd ⟨fop e, rd, 0, 0, 0, (q : Int), (shift : Int), 0⟩ := ⟨by cases e <;> simp [fop], rfl, rfl, rfl, rfl, by dsimp only; omega, by dsimp only; omega, rfl⟩
  rw [hi]
  refine ⟨hL, ?_⟩
  rw [List.foldl_cons, List.foldl_nil, doI_first s0 rd h0 h1 hl _ hL]
  have he : (16 * (shift : Int)).toNat = 16 * shift := by omega
  cases e <;> simp [valL, fop, he]
theorem load_ok : ∀ k, k ≤ 4 → LoadOK s0 rd n e k (load_upto rd (fop e) (emp e) n k)
  | 0, _ => ⟨fun x hx => absurd hx List.not_mem_nil, .inl ⟨rfl, fun i hi _ => by omega⟩⟩
  | k + 1, hk => by
    obtain ⟨ha, hv⟩ := load_ok k (by omega)
    have hp := piece_pc n k (by omega)
    have hpl := pc_lt n k
    rw [load_upto, load_step, hp]
    obtain ⟨out, hout⟩ : ∃ out, out = load_upto rd (fop e) (emp e) n k := ⟨_, rfl⟩
    rw [← hout] at ha hv ⊢
    by_cases hc : (pc n k : Int) = emp e
    · rw [if_pos hc]
      refine ⟨ha, ?_⟩
      rcases hv with ⟨rfl, hm⟩ | ⟨hne, v, q, h2, h3, h4⟩
      · exact .inl ⟨rfl, mute_next hm hc⟩
      · exact .inr ⟨hne, v, q, h2, upTo_skip h3 hc, h4⟩
    · rw [if_neg hc]
      rcases hv with ⟨hnil, hm⟩ | ⟨hne, v, q, h2, h3, h4⟩
      · have hx := xor_emp n e k
        obtain ⟨q, hq, hqv⟩ : ∃ q : Nat, q < 65536 ∧ bits .xor .i64 (pc n k : Int) (emp e) = (q : Int) ∧ (if e = true then q = npc n k else q = pc n k) := by
          rw [hx]
          cases e
          · exact ⟨pc n k, hpl, rfl, rfl⟩
          · exact ⟨npc n k, by unfold npc; omega, rfl, rfl⟩
        have hit := item_first s0 rd e h0 h1 hl (pc n k) hpl k (by omega) out hnil q hq hqv.1
        refine ⟨?_, .inr ⟨by simp, ?_⟩⟩
        · intro x hx
          rw [hnil, List.nil_append] at hx
          rw [List.mem_singleton.1 hx, ← hnil]
          exact hit.1
        · have e1 : out ++ [load_item rd (fop e) (emp e) (pc n k : Int) (k : Int) out] = [load_item rd (fop e) (emp e) (pc n k : Int) (k : Int) out] := by
            conv => lhs; arg 1; rw [hnil]
            rfl
          rw [e1, hit.2]
          have hq2 := hqv.2
          cases e
          · rw [if_neg (by decide)] at hq2 ⊢
            subst hq2
            exact ⟨_, _, rfl, movz_up hm, wrap_rng _⟩
          · rw [if_pos rfl] at hq2 ⊢
            subst hq2
            exact ⟨_, _, rfl, movn_up hm, bits_rng _⟩
      · have hi : load_item rd (fop e) (emp e) (pc n k : Int) (k : Int) out = ⟨17, rd, 0, 0, 0, (pc n k : Int), (k : Int), 0⟩ := by
          unfold load_item
          rw [if_neg (fun h => hne (List.eq_nil_of_length_eq_zero h))]
        have hL : isLoad rd ⟨17, rd, 0, 0, 0, (pc n k : Int), (k : Int), 0⟩ := ⟨.inr (.inl rfl), rfl, rfl, rfl, rfl, by dsimp only; omega, by dsimp only; omega, rfl⟩
        rw [hi]
        refine ⟨?_, .inr ⟨by simp, ?_⟩⟩
        · intro x hx
          rcases List.mem_append.1 hx with hx | hx
          · exact ha x hx
          · rw [List.mem_singleton.1 hx]; exact hL
        · rw [List.foldl_append, h2, List.foldl_cons, List.foldl_nil, doI_load s0 rd h0 h1 hl v q _ hL]
          have he : (16 * (k : Int)).toNat = 16 * k := by omega
          refine ⟨_, _, rfl, ?_, valL_rng _ _⟩
          have := movk_up h3
          simpa [valL, he] using this
theorem load_done (hn0 : -9223372036854775808 ≤ n) (hn1 : n < 9223372036854775808) : (∀ x ∈ load_all rd (fop e) (emp e) n, isLoad rd x) ∧ ∃ q, (load_all rd (fop e) (emp e) n).foldl doI s0 = { s0 with x := s0.x.set rd.toNat n, pl := q } := by
  obtain ⟨ha, hv⟩ := load_ok s0 rd n e h0 h1 hl 4 (Nat.le_refl _)
  unfold load_all
  obtain ⟨out, hout⟩ : ∃ out, out = load_upto rd (fop e) (emp e) n 4 := ⟨_, rfl⟩
  rw [← hout] at ha hv ⊢
  rcases hv with ⟨hnil, hm⟩ | ⟨hne, v, q, h2, h3, h4⟩
  · rw [if_pos (by rw [hnil]; rfl)]
    have hx : bits .xor .i64 ((if e = true then 65535 else 0 : Nat) : Int) (emp e) = ((0 : Nat) : Int) := by cases e <;> decide +kernel
    have he : emp e = ((if e = true then 65535 else 0 : Nat) : Int) := by cases e <;> rfl
    have hit := item_first s0 rd e h0 h1 hl (if e = true then 65535 else 0) (by split <;> omega) 0 (by omega) out hnil 0 (by omega) hx
    rw [← he] at hit
    have e1 : out ++ [load_item rd (fop e) (emp e) (emp e) 0 out] = [load_item rd (fop e) (emp e) (emp e) 0 out] := by
      conv => lhs; arg 1; rw [hnil]
      rfl
    rw [e1]
    refine ⟨fun x hx => by rw [List.mem_singleton.1 hx]; exact hit.1, wrap64 (s0.pl + 1), ?_⟩
    have hval : (if e = true then bits .xor .i64 (-1) (wrap64 (((0 : Nat) : Int) * 2 ^ (16 * 0))) else wrap64 (((0 : Nat) : Int) * 2 ^ (16 * 0))) = n := by
      have e2 : (if e = true then bits .xor .i64 (-1) (wrap64 (((0 : Nat) : Int) * 2 ^ (16 * 0))) else wrap64 (((0 : Nat) : Int) * 2 ^ (16 * 0))) = if e = true then -1 else 0 := by cases e <;> decide +kernel
      rw [e2]
      refine bv_inj ?_ ?_ hn0 hn1 (fun i hi => ?_)
      · cases e <;> decide
      · cases e <;> decide
      · rw [hm i (by omega) hi]
        cases e
        · show (bv 0).getLsbD i = false
          have : bv 0 = 0#64 := by decide
          rw [this]
          simp
        · show (bv (-1)).getLsbD i = true
          have : bv (-1) = BitVec.allOnes 64 := by decide
          rw [this, BitVec.getLsbD_allOnes, decide_eq_true hi]
    rw [hval] at hit
    exact hit.2
  · rw [if_neg (fun h => hne (List.eq_nil_of_length_eq_zero h))]
    have : v = n := bv_inj h4.1 h4.2 hn0 hn1 (fun i hi => by rw [h3 i hi, if_pos (by omega)])
    rw [this] at h2
    exact ⟨ha, q, h2⟩
end
theorem load_all_len (rd fop emp n : Int) : 0 < (load_all rd fop emp n).length ∧ (load_all rd fop emp n).length ≤ 4 := by
  have h := load_upto_len rd fop emp n 4
  unfold load_all
  split
  · rw [List.length_append]; simp; omega
  · omega
end Go.Proofs.Ytjhgbddcenhkfaa.P
