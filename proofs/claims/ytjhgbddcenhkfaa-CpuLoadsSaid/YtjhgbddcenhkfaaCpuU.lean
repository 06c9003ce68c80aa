/- What a processor makes of instructions that only reckon: plain; no statement of the seat. -/
import Derived.Test.YtjhgbddcenhkfaaCpuQ
import Derived.Test.YtjhgbddcenhkfaaCpuS
import Derived.Test.YtjhgbddcenhkfaaPF31
set_option linter.unusedVariables false
set_option linter.unusedSimpArgs false
namespace Go.Proofs.Ytjhgbddcenhkfaa.P
open Go.RowKit Go.Proofs.YtjhgbddcenhkfaaW.PrintWords Go.Proofs.YtjhgbddcenhkfaaW.PrintLast Go.Proofs.YtjhgbddcenhkfaaW.PrintMore
/-- An instruction that only reckons. -/
def plainI (x : Ins) : Prop := (1 ≤ x.f0 ∧ x.f0 ≤ 2) ∨ (7 ≤ x.f0 ∧ x.f0 ≤ 18)
def doI (s : CS) (x : Ins) : CS := { putC s x.f1 (reckC s x).1 with pl := wrap64 (s.pl + 1) }
theorem reckC_plain {s : CS} {x : Ins} (h : plainI x) : (reckC s x).2 = true := by
  have hc : x.f0 = 1 ∨ x.f0 = 2 ∨ x.f0 = 7 ∨ x.f0 = 8 ∨ x.f0 = 9 ∨ x.f0 = 10 ∨ x.f0 = 11 ∨ x.f0 = 12 ∨ x.f0 = 13 ∨ x.f0 = 14 ∨ x.f0 = 15 ∨ x.f0 = 16 ∨ x.f0 = 17 ∨ x.f0 = 18 := by unfold plainI at h; omega
  unfold reckC
  rcases hc with h | h | h | h | h | h | h | h | h | h | h | h | h | h <;> simp [h]
theorem stepC_plain {s : CS} {x : Ins} (hx : insC s = x) (he : ¬ s.pl = (s.ws.length : Int)) (h : plainI x) : stepC s = ((0, 0, 1), doI s x) := by
  have h' := h
  unfold plainI at h'
  unfold stepC
  rw [if_neg he, hx, if_neg (by omega)]
  have hg : goalC s x = (0, false) := by unfold goalC; repeat rw [if_neg (by omega)]
  have hd : isDif x = false := by unfold isDif; rw [Bool.and_eq_false_iff, decide_eq_false_iff_not, decide_eq_false_iff_not]; omega
  rw [hg, if_neg (by decide), if_neg (by omega), hd, if_neg (by decide)]
  have hk : kindC x = (0, 0, 1) := by unfold kindC; repeat rw [if_neg (by omega)]
  rw [hk]
  unfold recC nextC doI
  rw [if_pos (reckC_plain h), (putC_pl s x.f1 (reckC s x).1).1]
theorem doI_pl (s : CS) (x : Ins) : (doI s x).pl = wrap64 (s.pl + 1) ∧ (doI s x).ws = s.ws := ⟨rfl, (putC_pl s x.f1 (reckC s x).1).2⟩
theorem runN_plain : ∀ (d n k i : Nat) (s : CS), s.pl = (i : Int) → s.ws.length = i + d → s.ws.length ≤ 65536 → (∀ x ∈ s.ws, plainI x) → d < n → runN n k s = ((1, 0, ((k + d : Nat) : Int)), (s.ws.drop i).foldl doI s)
  | 0, n, k, i, s, hp, hl, hm, ha, hn => by
    obtain ⟨n, rfl⟩ : ∃ m, n = m + 1 := ⟨n - 1, by omega⟩
    have hs : stepC s = ((1, 0, 0), s) := by unfold stepC; rw [if_pos (by omega)]
    rw [runN, hs, if_neg (show ¬ ((1 : Int) = 0) by decide), List.drop_eq_nil_of_le (by omega)]
    simp
  | d + 1, n, k, i, s, hp, hl, hm, ha, hn => by
    obtain ⟨n, rfl⟩ : ∃ m, n = m + 1 := ⟨n - 1, by omega⟩
    have hlt : i < s.ws.length := by omega
    have hx : insC s = s.ws[i] := by
      unfold insC rd_T61
      rw [hp, Int.toNat_natCast, List.getD_eq_getElem?_getD, List.getElem?_eq_getElem hlt]
      rfl
    have hs := stepC_plain hx (by omega) (ha _ (List.getElem_mem hlt))
    have hd := doI_pl s s.ws[i]
    have ih := runN_plain d n (k + 1) (i + 1) (doI s s.ws[i]) (by rw [hd.1, hp]; unfold wrap64; omega) (by rw [hd.2]; omega) (by rw [hd.2]; omega) (by rw [hd.2]; exact ha) (by omega)
    rw [runN, hs, if_pos rfl]
    rw [ih, hd.2, List.drop_eq_getElem_cons hlt, List.foldl_cons]
    have e : k + 1 + d = k + (d + 1) := by omega
    rw [e]
/-! ### What any two numbers come to -/
def natOp (k : Nat) : Int := [1, 2, 11, 13, 7, 8, 9, 14, 15].getD k 0
def recOp (k : Nat) : Int := [8, 9, 10, 11, 13, 14, 15, 16, 17].getD k 0
def insK (k : Nat) : Ins := ⟨natOp k, 2, 0, 1, if k = 2 then 31 else 0, 0, 0, 0⟩
def stK (x : Ins) (a b : Int) : CS := ⟨[x], a :: b :: List.replicate 30 0, false, false, false, false, 0, List.replicate 256 0⟩
theorem reck_one (x : Ins) (a b W : Int) (h : encode_All.f 10 [x] = some ([W], 0, 1)) (he : encode_Encode.f x.f0 x.f1 x.f2 x.f3 x.f4 x.f5 x.f6 x.f7 = some (W, 0)) (hp : plainI x) (h1 : x.f1 = 2) :
    runC 5 (setRegs [a, b] 2 (newC [W] 256)) = ((1, 0, 1), doI (stK x a b) x) := by
  have hn : newC [W] 256 = ⟨[x], List.replicate 32 0, false, false, false, false, 0, List.replicate 256 0⟩ := by
    unfold newC
    rw [List.map_cons, List.map_nil, dcd_enc x W he]
  have hr : setRegs [a, b] 2 (newC [W] 256) = stK x a b := by
    rw [hn]
    rfl
  rw [hr]
  have := runN_plain 1 5 0 0 (stK x a b) rfl rfl (by show 1 ≤ 65536; omega) (by intro y hy; have := List.mem_singleton.1 hy; rw [this]; exact hp) (by omega)
  exact this
theorem doI_regs (x : Ins) (a b : Int) (h1 : x.f1 = 2) : regC (doI (stK x a b) x) 2 = (reckC (stK x a b) x).1 ∧ regC (doI (stK x a b) x) 0 = a ∧ regC (doI (stK x a b) x) 1 = b := by
  generalize hv : (reckC (stK x a b) x).1 = v
  have : doI (stK x a b) x = ⟨[x], a :: b :: v :: List.replicate 29 0, false, false, false, false, 1, List.replicate 256 0⟩ := by
    have e : wrap64 ((stK x a b).pl + 1) = 1 := show wrap64 (0 + 1) = 1 by decide +kernel
    unfold doI putC
    rw [h1, hv, if_neg (by decide), e]
    rfl
  rw [this]
  exact ⟨rfl, rfl, rfl⟩
theorem getK (x : Ins) (a b : Int) : getC (stK x a b) 0 = a ∧ getC (stK x a b) 1 = b ∧ getC (stK x a b) 31 = 0 := ⟨rfl, rfl, rfl⟩
structure ReckK (k : Nat) (a b : Int) (W v : Int) (ok : Bool) (s : CS) : Prop where
  all : encode_All.f 10 [insK k] = some ([W], 0, 1)
  rec_ : pianolaref11_Reckon.f 5 (recOp k) a b = some (v, ok)
  run : runC 5 (setRegs [a, b] 2 (newC [W] 256)) = ((1, 0, 1), s)
  r2 : regC s 2 = v
  no : ok = false → v = 0
  r0 : regC s 0 = a
  r1 : regC s 1 = b
theorem reckK_of (k : Nat) (a b W v : Int) (ok : Bool) (h : encode_All.f 10 [insK k] = some ([W], 0, 1)) (he : encode_Encode.f (insK k).f0 (insK k).f1 (insK k).f2 (insK k).f3 (insK k).f4 (insK k).f5 (insK k).f6 (insK k).f7 = some (W, 0)) (hp : plainI (insK k))
    (hr : pianolaref11_Reckon.f 5 (recOp k) a b = some (v, ok)) (hn : ok = false → v = 0) (hv : (reckC (stK (insK k) a b) (insK k)).1 = v) : ReckK k a b W v ok (doI (stK (insK k) a b) (insK k)) :=
  ⟨h, hr, reck_one _ a b W h he hp rfl, (doI_regs _ a b rfl).1.trans hv, hn, (doI_regs _ a b rfl).2.1, (doI_regs _ a b rfl).2.2⟩
theorem umod (b : Int) : Int.tmod (IntKind.u64.wrap b) 64 = b % 64 := by
  rw [IntKind.wrap_u64, Int.tmod_eq_emod_of_nonneg (by omega)]
  omega
theorem reckons0 (a b : Int) (ha : -9223372036854775808 ≤ a) (ha1 : a < 9223372036854775808) : ∃ W v ok s, ReckK 0 a b W v ok s := by
  exact ⟨_, _, true, _, reckK_of 0 a b 2332098562 _ _ (by decide +kernel) (by decide +kernel) (.inl (by decide)) rfl (fun h => absurd h (by decide)) rfl⟩
theorem reckons1 (a b : Int) (ha : -9223372036854775808 ≤ a) (ha1 : a < 9223372036854775808) : ∃ W v ok s, ReckK 1 a b W v ok s := by
  exact ⟨_, _, true, _, reckK_of 1 a b 3405840386 _ _ (by decide +kernel) (by decide +kernel) (.inl (by decide)) rfl (fun h => absurd h (by decide)) rfl⟩
theorem reckons2 (a b : Int) (ha : -9223372036854775808 ≤ a) (ha1 : a < 9223372036854775808) : ∃ W v ok s, ReckK 2 a b W v ok s := by
  refine ⟨_, _, true, _, reckK_of 2 a b 2600565762 _ _ (by decide +kernel) (by decide +kernel) (.inr (by decide)) rfl (fun h => absurd h (by decide)) ?_⟩
  have h1 : (reckC (stK (insK 2) a b) (insK 2)).1 = wrap64 (getC (stK (insK 2) a b) 31 + wrap64 (getC (stK (insK 2) a b) 0 * getC (stK (insK 2) a b) 1)) := rfl
  rw [h1, (getK _ a b).1, (getK _ a b).2.1, (getK _ a b).2.2, Int.zero_add]
  generalize a * b = c
  unfold wrap64
  omega
theorem reck3 (a b : Int) : (reckC (stK (insK 3) a b) (insK 3)).1 = quoF (getC (stK (insK 3) a b) 0) (getC (stK (insK 3) a b) 1) := rfl
theorem ref3 (a b : Int) : pianolaref11_Reckon.f 5 (recOp 3) a b = pianolaref11_Reckon.j0 5 11 a b 11 true := by
  have e : recOp 3 = 11 := rfl
  rw [e]
  unfold pianolaref11_Reckon.f
  rw [if_neg (by decide), if_neg (by decide), if_neg (by decide), if_pos rfl, show ((11 : Int) == 11) = true from rfl]
theorem quo_m1 (a b : Int) (hb : b = -1) : quoF a b = wrap64 (-a) := by
  have h0 : ¬ b = 0 := by omega
  have hd : Int.tdiv a b = -a := by rw [hb, Int.tdiv_neg, Int.tdiv_one]
  unfold quoF cpu_divide.f
  rw [if_neg h0, hd]
  by_cases h2 : a = -9223372036854775808
  · rw [if_pos h2, if_pos hb, Option.getD_some]
    unfold wrap64
    omega
  · rw [if_neg h2, Option.getD_some]
theorem reckons3 (a b : Int) (ha : -9223372036854775808 ≤ a) (ha1 : a < 9223372036854775808) : ∃ W v ok s, ReckK 3 a b W v ok s := by
  have e1 := reck3 a b
  rw [(getK _ a b).1, (getK _ a b).2.1] at e1
  have e2 := ref3 a b
  rw [pianolaref11_Reckon.j0, if_pos rfl] at e2
  by_cases h0 : b = 0
  · rw [if_pos h0] at e2
    refine ⟨_, 0, false, _, reckK_of 3 a b 2596342786 _ _ (by decide +kernel) (by decide +kernel) (.inr (by decide)) e2 (fun _ => rfl) ?_⟩
    rw [e1]
    unfold quoF cpu_divide.f
    rw [if_pos h0, Option.getD_some]
  · rw [if_neg h0] at e2
    by_cases h1 : b = -1
    · rw [if_pos h1, if_neg (show ¬ ((11 : Int) = 12) by decide)] at e2
      refine ⟨_, _, true, _, reckK_of 3 a b 2596342786 _ _ (by decide +kernel) (by decide +kernel) (.inr (by decide)) e2 (fun h => absurd h (by decide)) ?_⟩
      rw [e1, quo_m1 a b h1]
    · rw [if_neg h1, if_neg (show ¬ ((11 : Int) = 12) by decide)] at e2
      refine ⟨_, _, true, _, reckK_of 3 a b 2596342786 _ _ (by decide +kernel) (by decide +kernel) (.inr (by decide)) e2 (fun h => absurd h (by decide)) ?_⟩
      rw [e1]
      unfold quoF cpu_divide.f
      rw [if_neg h0, if_neg h1]
      split <;> rw [Option.getD_some]
theorem reckons4 (a b : Int) (ha : -9223372036854775808 ≤ a) (ha1 : a < 9223372036854775808) : ∃ W v ok s, ReckK 4 a b W v ok s := by
  exact ⟨_, _, true, _, reckK_of 4 a b 2315321346 _ _ (by decide +kernel) (by decide +kernel) (.inr (by decide)) rfl (fun h => absurd h (by decide)) rfl⟩
theorem reckons5 (a b : Int) (ha : -9223372036854775808 ≤ a) (ha1 : a < 9223372036854775808) : ∃ W v ok s, ReckK 5 a b W v ok s := by
  exact ⟨_, _, true, _, reckK_of 5 a b 2852192258 _ _ (by decide +kernel) (by decide +kernel) (.inr (by decide)) rfl (fun h => absurd h (by decide)) rfl⟩
theorem reckons6 (a b : Int) (ha : -9223372036854775808 ≤ a) (ha1 : a < 9223372036854775808) : ∃ W v ok s, ReckK 6 a b W v ok s := by
  exact ⟨_, _, true, _, reckK_of 6 a b 3389063170 _ _ (by decide +kernel) (by decide +kernel) (.inr (by decide)) rfl (fun h => absurd h (by decide)) rfl⟩
theorem reckons7 (a b : Int) (ha : -9223372036854775808 ≤ a) (ha1 : a < 9223372036854775808) : ∃ W v ok s, ReckK 7 a b W v ok s := by
  refine ⟨_, shl .i64 a (b % 64), true, _, reckK_of 7 a b 2596347906 _ _ (by decide +kernel) (by decide +kernel) (.inr (by decide)) ?_ (fun h => absurd h (by decide)) ?_⟩
  · show pianolaref11_Reckon.j0 5 16 a b 16 false = _
    rw [pianolaref11_Reckon.j0, if_neg (by decide), if_neg (by decide), if_neg (by decide), if_neg (by decide), if_pos rfl, umod, if_pos (by omega)]
  · show wrap64 (a * 2 ^ (b % 64).toNat) = shl .i64 a (b % 64)
    unfold shl
    rw [Nat.min_eq_left (show (b % 64).toNat ≤ IntKind.i64.bits by show (b % 64).toNat ≤ 64; omega), IntKind.wrap_i64, wrap64]
theorem reckons8 (a b : Int) (ha : -9223372036854775808 ≤ a) (ha1 : a < 9223372036854775808) : ∃ W v ok s, ReckK 8 a b W v ok s := by
  refine ⟨_, shr .i64 a (b % 64), true, _, reckK_of 8 a b 2596349954 _ _ (by decide +kernel) (by decide +kernel) (.inr (by decide)) ?_ (fun h => absurd h (by decide)) ?_⟩
  · show pianolaref11_Reckon.j0 5 17 a b 17 false = _
    rw [pianolaref11_Reckon.j0, if_neg (by decide), if_neg (by decide), if_neg (by decide), if_neg (by decide), if_neg (by decide), if_pos rfl, umod, if_pos (by omega)]
  · show a / 2 ^ (b % 64).toNat = shr .i64 a (b % 64)
    unfold shr
    rw [Nat.min_eq_left (show (b % 64).toNat ≤ IntKind.i64.bits by show (b % 64).toNat ≤ 64; omega)]
theorem reckons (k : Nat) (hk : k < 9) (a b : Int) (ha : -9223372036854775808 ≤ a) (ha1 : a < 9223372036854775808) : ∃ W v ok s, ReckK k a b W v ok s := by
  have hc : k = 0 ∨ k = 1 ∨ k = 2 ∨ k = 3 ∨ k = 4 ∨ k = 5 ∨ k = 6 ∨ k = 7 ∨ k = 8 := by omega
  rcases hc with rfl | rfl | rfl | rfl | rfl | rfl | rfl | rfl | rfl
  · exact reckons0 a b ha ha1
  · exact reckons1 a b ha ha1
  · exact reckons2 a b ha ha1
  · exact reckons3 a b ha ha1
  · exact reckons4 a b ha ha1
  · exact reckons5 a b ha ha1
  · exact reckons6 a b ha ha1
  · exact reckons7 a b ha ha1
  · exact reckons8 a b ha ha1
end Go.Proofs.Ytjhgbddcenhkfaa.P
