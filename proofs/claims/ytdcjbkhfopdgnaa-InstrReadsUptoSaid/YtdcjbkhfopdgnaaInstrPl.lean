/- Instructions as bytes, in plain Lean: sizes, what may be, bytes, and that bytes tell their instruction; no statement of the seat. -/
import Derived.Laws.BitsLemmas
import Derived.Test.YtdcjbkhfopdgnaaPF25
import Derived.Test.YtdcjbkhfopdgnaaPF28
import Derived.Test.YtdcjbkhfopdgnaaPF26
import Derived.Test.YtdcjbkhfopdgnaaPF27
set_option linter.unusedSimpArgs false
set_option linter.unusedVariables false
namespace Go.Proofs.Ytdcjbkhfopdgnaa.Pl
open Go.RowKit Go.Proofs.Ytdcjbkhfopdgnaa.P Go.Proofs.YtdcjbkhfopdgnaaW.PrintWords Go.Proofs.YtdcjbkhfopdgnaaW.PrintLast Go.Proofs.YtdcjbkhfopdgnaaW.PrintMore
abbrev X := S58
def sz (a : Int) : Int := (instr_Size.f 200 a).getD 0
theorem sz_in : ((List.range 51).all fun a => (instr_Size.f 200 (a : Int)).isSome && decide (0 ≤ sz a) && decide (sz a ≤ 3) && (pianolaref05_Size.f 3 (a : Int) == some (sz a)) && (instr_Known.f (a : Int) == some (decide (sz a ≠ 0))) && (pianolaref05_Known.f 3 (a : Int) == some (decide (sz a ≠ 0)))) = true := by kernel_rfl
theorem name_out (a : Int) (h : a < 0 ∨ 50 < a) : instr_Name.f a = some (⟨#[]⟩ : ByteArray) := by
  have hr : instr_reckons.f a = some (⟨#[]⟩ : ByteArray) := by
    unfold instr_reckons.f
    repeat' first
      | rw [if_neg (by omega)]
      | rfl
  unfold instr_Name.f
  repeat' first
    | rw [if_neg (by omega)]
  rw [hr]
  rfl
theorem known_out (a : Int) (h : a < 0 ∨ 50 < a) : instr_Known.f a = some false := by
  unfold instr_Known.f
  rw [name_out a h]
  kernel_rfl
theorem rname_out (k : Nat) (a : Int) (h : a < 0 ∨ 50 < a) : pianolaref05_Name.f (k + 1) a = some (⟨#[]⟩ : ByteArray) := by
  unfold pianolaref05_Name.f
  simp only [Option.bind_some]
  by_cases c : a ≥ 0
  · rw [if_pos c, pianolaref05_Name.j0, if_neg (by simp; omega), if_neg (by omega), if_neg (by omega), if_neg (by omega)]
  · rw [if_neg c, pianolaref05_Name.j0, if_neg (by decide), if_neg (by omega), if_neg (by omega), if_neg (by omega)]
theorem rknown_out (k : Nat) (a : Int) (h : a < 0 ∨ 50 < a) : pianolaref05_Known.f (k + 1) a = some false := by
  unfold pianolaref05_Known.f
  rw [rname_out k a h]
  kernel_rfl
theorem size_out (k : Nat) (a : Int) (h : a < 0 ∨ 50 < a) : instr_Size.f (k + 2) a = some 0 := by
  unfold instr_Size.f
  rw [if_neg (by omega), if_neg (by omega), instr_Size.j0, if_neg (by simp; omega), if_neg (by omega), if_neg (by omega), if_neg (by omega), instr_Size.j1, if_neg (by simp; omega), known_out a h]
  rfl
theorem rsize_out (k : Nat) (a : Int) (h : a < 0 ∨ 50 < a) : pianolaref05_Size.f (k + 1) a = some 0 := by
  unfold pianolaref05_Size.f
  rw [rknown_out k a h]
  rfl
theorem sz_out (a : Int) (h : a < 0 ∨ 50 < a) : sz a = 0 := by unfold sz; rw [size_out 198 a h]; rfl
theorem all_in (a : Int) (h0 : 0 ≤ a) (h1 : a ≤ 50) : instr_Size.f 200 a = some (sz a) ∧ 0 ≤ sz a ∧ sz a ≤ 3 ∧ pianolaref05_Size.f 3 a = some (sz a) ∧ instr_Known.f a = some (decide (sz a ≠ 0)) ∧ pianolaref05_Known.f 3 a = some (decide (sz a ≠ 0)) := by
  have h := List.all_eq_true.mp sz_in a.toNat (List.mem_range.mpr (by omega))
  simp only [Bool.and_eq_true, decide_eq_true_eq, beq_iff_eq, Int.toNat_of_nonneg h0] at h
  obtain ⟨⟨⟨⟨⟨h1, h2⟩, h3⟩, h4⟩, h5⟩, h6⟩ := h
  obtain ⟨s, hs⟩ := Option.isSome_iff_exists.mp h1
  exact ⟨by unfold sz; rw [hs]; rfl, h2, h3, h4, h5, h6⟩
theorem size_all (a : Int) : instr_Size.f 200 a = some (sz a) := by
  by_cases h : a < 0 ∨ 50 < a
  · rw [size_out 198 a h, sz_out a h]
  · exact (all_in a (by omega) (by omega)).1
theorem sz_lo (a : Int) : 0 ≤ sz a := by
  by_cases h : a < 0 ∨ 50 < a
  · rw [sz_out a h]; decide
  · exact (all_in a (by omega) (by omega)).2.1
theorem sz_hi (a : Int) : sz a ≤ 3 := by
  by_cases h : a < 0 ∨ 50 < a
  · rw [sz_out a h]; decide
  · exact (all_in a (by omega) (by omega)).2.2.1
theorem rsize_all (k : Nat) (a : Int) : pianolaref05_Size.f (k + 3) a = some (sz a) := by
  by_cases h : a < 0 ∨ 50 < a
  · rw [rsize_out (k + 2) a h, sz_out a h]
  · exact at_rounds (g := fun k => pianolaref05_Size.f k a) (pianolaref05_Size.mono a) (show 3 ≤ k + 3 by omega) (all_in a (by omega) (by omega)).2.2.2.1
theorem known_all (a : Int) : instr_Known.f a = some (decide (sz a ≠ 0)) := by
  by_cases h : a < 0 ∨ 50 < a
  · rw [known_out a h, sz_out a h]; rfl
  · exact (all_in a (by omega) (by omega)).2.2.2.2.1
theorem rknown_all (k : Nat) (a : Int) : pianolaref05_Known.f (k + 3) a = some (decide (sz a ≠ 0)) := by
  by_cases h : a < 0 ∨ 50 < a
  · rw [rknown_out (k + 2) a h, sz_out a h]; rfl
  · exact at_rounds (g := fun k => pianolaref05_Known.f k a) (pianolaref05_Known.mono a) (show 3 ≤ k + 3 by omega) (all_in a (by omega) (by omega)).2.2.2.2.2
theorem sz_two : sz 2 = 2 := by kernel_rfl
theorem op_in (a : Int) (h : sz a ≠ 0) : 0 ≤ a ∧ a ≤ 50 := by
  by_cases c : a < 0 ∨ 50 < a
  · exact absurd (sz_out a c) h
  · omega
/-- May an instruction be? -/
def mayB (a b : Int) : Bool := if a = 2 then decide (-128 ≤ b) && decide (b ≤ 127) else if sz a = 2 then decide (0 ≤ b) && decide (b ≤ 255) else if sz a = 3 then decide (0 ≤ b) && decide (b ≤ 65535) else decide (sz a ≠ 0) && (b == 0)
theorem may_is (a b : Int) : instr_may.f 200 a b = some (mayB a b) := by
  unfold instr_may.f mayB
  rw [size_all, known_all]
  simp only [Option.bind_some]
  by_cases h2 : a = 2
  · rw [if_pos h2, if_pos h2]
    by_cases c : b ≥ -128
    · rw [if_pos c, decide_eq_true (show -128 ≤ b from c), Bool.true_and]
    · rw [if_neg c, decide_eq_false (show ¬ -128 ≤ b from c), Bool.false_and]
  · rw [if_neg h2, if_neg h2]
    by_cases h3 : sz a = 2
    · rw [if_pos h3, if_pos h3]
      by_cases c : b ≥ 0
      · rw [if_pos c, decide_eq_true (show 0 ≤ b from c), Bool.true_and]
      · rw [if_neg c, decide_eq_false (show ¬ 0 ≤ b from c), Bool.false_and]
    · rw [if_neg h3, if_neg h3]
      by_cases h4 : sz a = 3
      · rw [if_pos h4, if_pos h4]
        by_cases c : b ≥ 0
        · rw [if_pos c, decide_eq_true (show 0 ≤ b from c), Bool.true_and]
        · rw [if_neg c, decide_eq_false (show ¬ 0 ≤ b from c), Bool.false_and]
      · rw [if_neg h4, if_neg h4]
        cases hd : decide (sz a ≠ 0) <;> simp
theorem rmay_is (k : Nat) (a b : Int) : pianolaref05_May.f (k + 3) a b = some (mayB a b) := by
  unfold pianolaref05_May.f mayB
  rw [rsize_all, rknown_all]
  simp only [Option.bind_some]
  by_cases h0 : sz a = 0
  · have h2 : a ≠ 2 := by rintro rfl; rw [sz_two] at h0; cases h0
    rw [decide_eq_false (by simpa using h0), if_neg (by decide), if_neg h2, if_neg (by omega), if_neg (by omega), Bool.false_and]
  · rw [decide_eq_true h0, if_pos rfl]
    by_cases h2 : a = 2
    · rw [if_pos h2, if_pos h2]
      by_cases c : b ≥ -128
      · rw [if_pos c, decide_eq_true (show -128 ≤ b from c), Bool.true_and]
      · rw [if_neg c, decide_eq_false (show ¬ -128 ≤ b from c), Bool.false_and]
    · rw [if_neg h2, if_neg h2]
      by_cases h3 : sz a = 2
      · rw [if_pos h3, if_pos h3]
        by_cases c : b ≥ 0
        · rw [if_pos c, decide_eq_true (show 0 ≤ b from c), Bool.true_and]
        · rw [if_neg c, decide_eq_false (show ¬ 0 ≤ b from c), Bool.false_and]
      · rw [if_neg h3, if_neg h3]
        by_cases h4 : sz a = 3
        · rw [if_pos h4, if_pos h4]
          by_cases c : b ≥ 0
          · rw [if_pos c, decide_eq_true (show 0 ≤ b from c), Bool.true_and]
          · rw [if_neg c, decide_eq_false (show ¬ 0 ≤ b from c), Bool.false_and]
        · rw [if_neg h4, if_neg h4, Bool.true_and]
/-- The bytes of an instruction, of instructions. -/
def by1 (x : X) : List Int := insBytes x (sz x.f0)
def cat (l : List X) : List Int := l.flatMap by1
theorem by1_len (x : X) : (by1 x).length = (sz x.f0).toNat := by
  have := sz_hi x.f0
  unfold by1 insBytes ins3
  rw [List.length_take]; simp; omega
theorem cat_cons (x : X) (l : List X) : cat (x :: l) = by1 x ++ cat l := rfl
theorem cat_append (a b : List X) : cat (a ++ b) = cat a ++ cat b := by unfold cat; rw [List.flatMap_append]
theorem cat_one (x : X) : cat [x] = by1 x := by simp [cat]
/-- What an instruction that may be is of. -/
theorem may_op (x : X) (h : mayB x.f0 x.f1 = true) : sz x.f0 ≠ 0 := by
  unfold mayB at h
  by_cases h2 : x.f0 = 2
  · rw [h2, sz_two]; decide
  · rw [if_neg h2] at h
    by_cases h3 : sz x.f0 = 2
    · omega
    · rw [if_neg h3] at h
      by_cases h4 : sz x.f0 = 3
      · omega
      · rw [if_neg h4, Bool.and_eq_true, decide_eq_true_eq] at h; exact h.1
theorem rbytes_is (k : Nat) (x : X) (h : mayB x.f0 x.f1 = true) : pianolaref05_Bytes.f (k + 3) x.f0 x.f1 = some (by1 x) := by
  have hz := may_op x h
  have hi := op_in _ hz
  have hh := sz_hi x.f0
  have hl := sz_lo x.f0
  unfold pianolaref05_Bytes.f by1 insBytes ins3
  rw [rsize_all]
  simp only [Option.bind_some]
  unfold mayB at h
  have e8 : ∀ n : Int, IntKind.u8.wrap n = n % 256 := fun n => by simp [IntKind.wrap, IntKind.bits, IntKind.signed]
  by_cases h2 : sz x.f0 = 2
  · rw [if_pos h2, h2]
    simp only [e8]
    show _ = some [x.f0 % 256, x.f1 % 256]
    have hb : -128 ≤ x.f1 ∧ x.f1 ≤ 255 := by
      by_cases c : x.f0 = 2
      · rw [if_pos c, Bool.and_eq_true, decide_eq_true_eq, decide_eq_true_eq] at h; omega
      · rw [if_neg c, if_pos h2, Bool.and_eq_true, decide_eq_true_eq, decide_eq_true_eq] at h; omega
    rw [show wrap64 (x.f1 + 256) = x.f1 + 256 by unfold wrap64; omega, Int.tmod_eq_emod_of_nonneg (by omega)]
    congr 3
    omega
  · rw [if_neg h2]
    have c : x.f0 ≠ 2 := fun e => h2 (by rw [e]; exact sz_two)
    rw [if_neg c, if_neg h2] at h
    by_cases h3 : sz x.f0 = 3
    · rw [if_pos h3, h3]
      simp only [e8]
      show _ = some [x.f0 % 256, x.f1 % 256, x.f1 / 256 % 256]
      rw [if_pos h3, Bool.and_eq_true, decide_eq_true_eq, decide_eq_true_eq] at h
      rw [Int.tmod_eq_emod_of_nonneg (by omega), Int.tdiv_eq_ediv_of_nonneg (by omega), show wrap64 (x.f1 / 256) = x.f1 / 256 by unfold wrap64; omega]
      congr 3
      omega
    · rw [if_neg h3, show sz x.f0 = 1 by omega]
      simp only [e8]
      rfl
/-- The first instruction that may not be; -1: there is none. -/
def bad : List X → Nat → Int
  | [], _ => -1
  | x :: l, i => if mayB x.f0 x.f1 = true then bad l (i + 1) else i
theorem idx_is : ∀ (l : List X) (i : Nat), idxI l i = some (bad l i)
  | [], _ => rfl
  | x :: l, i => by
    rw [idxI, may_is, bad]
    simp only [Option.bind_some]
    by_cases c : mayB x.f0 x.f1 = true
    · rw [if_pos c, if_pos c]; exact idx_is l (i + 1)
    · rw [if_neg c, if_neg c]
theorem bad_neg : ∀ (l : List X) (i : Nat), bad l i < 0 → bad l i = -1 ∧ ∀ x ∈ l, mayB x.f0 x.f1 = true
  | [], i, _ => ⟨rfl, by simp⟩
  | x :: l, i, h => by
    rw [bad] at h ⊢
    by_cases c : mayB x.f0 x.f1 = true
    · rw [if_pos c] at h ⊢
      obtain ⟨h1, h2⟩ := bad_neg l (i + 1) h
      refine ⟨h1, ?_⟩
      intro y hy
      rcases List.mem_cons.mp hy with rfl | hy
      · exact c
      · exact h2 y hy
    · rw [if_neg c] at h; omega
theorem enc_is : ∀ (l : List X) (o : List Int), o.length ≤ 4096 → encL l o = some (if (o ++ cat l).length ≤ 4096 then (o ++ cat l, true) else ([], false))
  | [], o, h => by
    rw [encL, show cat [] = [] from rfl, List.append_nil, if_pos h]
  | x :: l, o, h => by
    have h1 := sz_lo x.f0
    have h2 := sz_hi x.f0
    rw [encL, size_all]
    simp only [Option.bind_some]
    rw [if_pos ⟨h1, h2⟩]
    change (if (o ++ by1 x).length > 4096 then some ([], false) else encL l (o ++ by1 x)) = _
    rw [cat_cons, ← List.append_assoc]
    by_cases c : (o ++ by1 x).length > 4096
    · rw [if_pos c, if_neg (by rw [List.length_append]; omega)]
    · rw [if_neg c, enc_is l _ (by omega)]
/-- A code, or why there is none. -/
def encR (l : List X) : List Int × Int × Int := if 0 ≤ bad l 0 then ([], 50, bad l 0) else if (cat l).length ≤ 4096 then (cat l, 0, ((cat l).length : Int)) else ([], 3, 0)
theorem enc_f (l : List X) : instr_Encode.f l = some (encR l) := by
  unfold instr_Encode.f encR
  rw [idx_is, enc_is l [] (by simp)]
  simp only [Option.bind_some, List.nil_append]
  by_cases c : bad l 0 ≥ 0
  · rw [if_pos c, if_pos c]
  · rw [if_neg c, if_neg c]
    by_cases d : (cat l).length ≤ 4096
    · rw [if_pos d, if_pos d, if_pos rfl]
    · rw [if_neg d, if_neg d, if_neg (by decide)]
theorem rd_at (l : List X) (i : Nat) (h : i < l.length) : rd_T58 l (i : Int) = l[i] := by
  unfold rd_T58
  rw [Int.toNat_natCast, List.getD_eq_getElem?_getD, List.getElem?_eq_getElem h]
  rfl
theorem renc_l0 (k : Nat) (x0 : List X) (hx : x0.length < 4611686018427387904) : ∀ (l pre : List X) (o : List Int), x0 = pre ++ l → o.length ≤ 5000 → (o.length ≤ 4096 → o = cat pre) → (4096 < o.length → 4096 < (cat pre).length) →
    pianolaref05_Encode.l0 (k + 4 + l.length) x0 o (pre.length : Int) = some (if 0 ≤ bad l pre.length then ([], 50, bad l pre.length) else if (cat x0).length ≤ 4096 then (cat x0, 0, ((cat x0).length : Int)) else ([], 3, 0))
  | [], pre, o, hs, ho, h1, h2 => by
    rw [List.append_nil] at hs
    subst hs
    rw [List.length_nil, Nat.add_zero, pianolaref05_Encode.l0, if_neg (by omega), bad, if_neg (show ¬ ((0 : Int) ≤ -1) by decide)]
    by_cases c : (o.length : Int) > 4096
    · rw [if_pos c, if_neg (by have := h2 (by omega); omega)]
    · rw [if_neg c]
      have e := h1 (by omega)
      rw [← e, if_pos (by omega)]
  | x :: l, pre, o, hs, ho, h1, h2 => by
    have hlen : pre.length + l.length + 1 = x0.length := by rw [hs, List.length_append, List.length_cons]; omega
    have hx' : rd_T58 x0 (pre.length : Int) = x := by
      rw [rd_at x0 pre.length (by omega)]
      simp [hs]
    have hw : wrap64 ((pre.length : Int) + 1) = ((pre ++ [x]).length : Int) := by
      rw [List.length_append, List.length_singleton]; unfold wrap64; omega
    rw [List.length_cons, show k + 4 + (l.length + 1) = (k + 4 + l.length) + 1 by omega, pianolaref05_Encode.l0, if_pos (by omega), if_pos (by omega), hx', show k + 4 + l.length = (k + l.length + 1) + 3 by omega, rmay_is]
    simp only [Option.bind_some]
    rw [bad]
    by_cases c : mayB x.f0 x.f1 = true
    · rw [if_pos c, if_pos c, rbytes_is _ x c, hw, show k + l.length + 1 + 3 = k + 4 + l.length by omega]
      simp only [Option.bind_some]
      have hl : (pre ++ [x]).length = pre.length + 1 := by simp
      by_cases d : (o.length : Int) ≤ 4096
      · have e := h1 (by omega)
        have hb := by1_len x
        have hz := sz_hi x.f0
        have hol : (o ++ by1 x).length = o.length + (sz x.f0).toNat := by rw [List.length_append, hb]
        have ho' : o ++ by1 x = cat (pre ++ [x]) := by rw [cat_append, cat_one, e]
        rw [if_pos d, if_pos (by omega), renc_l0 k x0 hx l (pre ++ [x]) (o ++ by1 x) (by rw [hs]; simp) (by omega) (fun _ => ho') (fun h => by rw [← ho']; exact h), hl]
      · have e := h2 (by omega)
        rw [if_neg d, renc_l0 k x0 hx l (pre ++ [x]) o (by rw [hs]; simp) ho (fun h => by omega) (fun _ => by rw [cat_append, List.length_append]; omega), hl]
    · rw [if_neg c, if_neg c, if_pos (by omega)]
theorem renc_f (k : Nat) (l : List X) (hx : l.length < 4611686018427387904) : pianolaref05_Encode.f (k + 4 + l.length) l = some (encR l) := by
  unfold pianolaref05_Encode.f encR
  exact renc_l0 k l hx l [] [] rfl (by simp) (fun _ => rfl) (fun h => by simp at h)
/-- The same instructions are the same. -/
theorem same_l0 (k : Nat) (l : List X) (hx : l.length < 4611686018427387904) : ∀ (d i : Nat), i + d = l.length → pianolalaw05_Same.l0 (k + 1 + d) l l (i : Int) = some true
  | 0, i, h => by rw [Nat.add_zero, pianolalaw05_Same.l0, if_neg (by omega)]
  | d + 1, i, h => by
    rw [show k + 1 + (d + 1) = (k + 1 + d) + 1 by omega, pianolalaw05_Same.l0, if_pos (by omega), if_pos (by omega), if_pos (by omega), if_neg (by simp), show wrap64 ((i : Int) + 1) = ((i + 1 : Nat) : Int) by unfold wrap64; omega]
    exact same_l0 k l hx d (i + 1) (by omega)
theorem same_f (k : Nat) (l : List X) (hx : l.length < 4611686018427387904) : pianolalaw05_Same.f (k + 1 + l.length) l l = some true := by
  unfold pianolalaw05_Same.f
  rw [if_pos rfl]
  exact same_l0 k l hx l.length 0 (by omega)
/-- The instruction with which bytes begin. -/
theorem orb (a b : Int) (ha : 0 ≤ a) (ha1 : a < 256) (hb : 0 ≤ b) (hb1 : b < 256) : Go.bits .or .i64 (a * 256) b = a * 256 + b := by
  have hw : ∀ n : Int, 0 ≤ n → n < 2 ^ 62 → IntKind.i64.wrap n = n := fun n h0 h1 => by
    simp only [IntKind.wrap, IntKind.bits, IntKind.signed]
    simp
    omega
  exact bits_join .i64 62 (by decide) hw 8 (a * 256) b (by omega) (by omega) (by omega) hb (by omega) (by omega)
theorem orz (b : Int) (hb : 0 ≤ b) (hb1 : b < 256) : Go.bits .or .i64 0 b = b := by
  have h := orb 0 b (by omega) (by omega) hb hb1
  simpa using h
/-- What a beginning is, by its bytes. -/
def fstB (b : List Int) : Int × Int × Int :=
  if b.length = 0 then (0, 0, 0) else
  let op := rd b 0
  if sz op = 0 ∨ sz op > b.length then (0, 0, 0) else
  let a := if sz op = 1 then 0 else if sz op = 2 then rd b 1 else rd b 1 + 256 * rd b 2
  if op = 2 then (op, if a > 127 then a - 256 else a, sz op) else (op, a, sz op)
def okB (b : List Int) : Prop := ∀ x ∈ b, 0 ≤ x ∧ x < 256
theorem rd_ok {b : List Int} (h : okB b) (i : Int) : 0 ≤ rd b i ∧ rd b i < 256 := by
  unfold rd
  by_cases c : i.toNat < b.length
  · rw [List.getD_eq_getElem?_getD, List.getElem?_eq_getElem c]; exact h _ (List.getElem_mem c)
  · rw [List.getD_eq_getElem?_getD, List.getElem?_eq_none (by omega)]; exact ⟨by decide, by decide⟩
theorem w64 (n : Int) (h0 : -4611686018427387904 ≤ n) (h1 : n < 4611686018427387904) : wrap64 n = n := by unfold wrap64; omega
theorem first_is (b : List Int) (h : okB b) : instr_first.f 200 b = some (fstB b) := by
  have r0 := rd_ok h 0
  have r1 := rd_ok h 1
  have r2 := rd_ok h 2
  have hz := sz_lo (rd b 0)
  have hh := sz_hi (rd b 0)
  unfold instr_first.f fstB
  rw [w64 (rd b 0) (by omega) (by omega), size_all]
  simp only [Option.bind_some]
  by_cases c : b.length = 0
  · rw [if_pos (by omega), if_pos c]
  · rw [if_neg (by omega), if_neg c, if_pos (by omega)]
    by_cases d : sz (rd b 0) > b.length
    · rw [if_pos d, if_pos (.inr d), instr_first.j0, if_pos rfl]
    · rw [if_neg d]
      by_cases e : sz (rd b 0) = 0
      · rw [if_pos (.inl e), instr_first.j0, if_pos (by rw [e]; rfl)]
      · rw [if_neg (by omega), instr_first.j0, if_neg (by simpa using e)]
        rw [w64 (sz (rd b 0) - 1) (by omega) (by omega)]
        by_cases s1 : sz (rd b 0) = 1
        · rw [instr_first.l0, if_neg (by omega), if_pos s1]
          by_cases t : rd b 0 = 2
          · rw [t, sz_two] at s1; cases s1
          · rw [if_neg t, if_neg t]
        · rw [if_neg s1]
          have i8 : ∀ n : Int, 0 ≤ n → n < 256 → IntKind.i8.wrap n = if n > 127 then n - 256 else n := fun n h0 h1 => by
            simp only [IntKind.wrap, IntKind.bits, IntKind.signed]
            by_cases c : n > 127
            · rw [if_pos c]; simp; omega
            · rw [if_neg c]; simp; omega
          by_cases s2 : sz (rd b 0) = 2
          · rw [if_pos s2, s2, show (2 : Int) - 1 = 1 by rfl, instr_first.l0, if_pos (by decide), if_pos (by decide), if_pos (by omega), show wrap64 ((1 : Int) - 1) = 0 by kernel_rfl, show wrap64 ((0 : Int) * 256) = 0 by kernel_rfl, w64 (rd b 1) (by omega) (by omega), orz _ r1.1 r1.2, instr_first.l0, if_neg (by decide)]
            by_cases t : rd b 0 = 2
            · rw [if_pos t, if_pos t, i8 _ r1.1 r1.2, w64 _ (by split <;> omega) (by split <;> omega)]
            · rw [if_neg t, if_neg t]
          · have s3 : sz (rd b 0) = 3 := by omega
            have t : rd b 0 ≠ 2 := fun t => by rw [t, sz_two] at s3; cases s3
            rw [if_neg s2, s3, show (3 : Int) - 1 = 2 by rfl, instr_first.l0, if_pos (by decide), if_pos (by decide), if_pos (by omega), show wrap64 ((2 : Int) - 1) = 1 by kernel_rfl, show wrap64 ((0 : Int) * 256) = 0 by kernel_rfl, w64 (rd b 2) (by omega) (by omega), orz _ r2.1 r2.2, instr_first.l0, if_pos (by decide), if_pos (by decide), if_pos (by omega), show wrap64 ((1 : Int) - 1) = 0 by kernel_rfl, w64 (rd b 1) (by omega) (by omega), w64 (rd b 2 * 256) (by omega) (by omega), orb _ _ r2.1 r2.2 r1.1 r1.2, instr_first.l0, if_neg (by decide), if_neg t, if_neg t, show rd b 2 * 256 + rd b 1 = rd b 1 + 256 * rd b 2 by omega]
/-- Where instructions stand, from a place on. -/
def placed : Nat → List X → List Ins
  | _, [] => []
  | i, x :: l => ((i : Int), x) :: placed (i + (sz x.f0).toNat) l
theorem placed_snd : ∀ (l : List X) (i : Nat), (placed i l).map (·.2) = l
  | [], _ => rfl
  | x :: l, i => by rw [placed, List.map_cons, placed_snd]
theorem by1_ok (x : X) : okB (by1 x) := by
  intro y hy
  unfold by1 insBytes ins3 at hy
  have hy := List.mem_of_mem_take hy
  have e8 : ∀ n : Int, IntKind.u8.wrap n = n % 256 := fun n => by simp [IntKind.wrap, IntKind.bits, IntKind.signed]
  simp only [e8, List.mem_cons, List.not_mem_nil, or_false] at hy
  omega
theorem cat_ok : ∀ l : List X, okB (cat l)
  | [] => by intro y hy; simp [cat] at hy
  | x :: l => by
    intro y hy
    rw [cat_cons, List.mem_append] at hy
    rcases hy with hy | hy
    · exact by1_ok x y hy
    · exact cat_ok l y hy
theorem ok_drop {b : List Int} (h : okB b) (i : Nat) : okB (b.drop i) := fun y hy => h y (List.mem_of_mem_drop hy)
theorem fst_by (x : X) (h : mayB x.f0 x.f1 = true) (r : List Int) : fstB (by1 x ++ r) = (x.f0, x.f1, sz x.f0) := by
  have hz := may_op x h
  have hi := op_in _ hz
  have hh := sz_hi x.f0
  have hl := sz_lo x.f0
  have e8 : ∀ n : Int, IntKind.u8.wrap n = n % 256 := fun n => by simp [IntKind.wrap, IntKind.bits, IntKind.signed]
  have hlen := by1_len x
  have h0 : ∃ q, by1 x ++ r = x.f0 :: q := by
    unfold by1 insBytes ins3
    obtain ⟨m, hm⟩ : ∃ m, (sz x.f0).toNat = m + 1 := ⟨(sz x.f0).toNat - 1, by omega⟩
    rw [hm, List.take_succ_cons, List.cons_append, e8, show x.f0 % 256 = x.f0 by omega]
    exact ⟨_, rfl⟩
  have hr0 : rd (by1 x ++ r) 0 = x.f0 := by obtain ⟨q, hq⟩ := h0; rw [hq]; rfl
  have hln : (by1 x ++ r).length = (sz x.f0).toNat + r.length := by rw [List.length_append, hlen]
  unfold fstB
  rw [if_neg (by omega)]
  simp only [hr0]
  rw [if_neg (by omega)]
  unfold mayB at h
  by_cases s1 : sz x.f0 = 1
  · have c : x.f0 ≠ 2 := fun e => by rw [e, sz_two] at s1; cases s1
    rw [if_neg c, if_neg (by omega), if_neg (by omega), Bool.and_eq_true, beq_iff_eq] at h
    rw [if_neg c, if_pos s1, h.2]
  · rw [if_neg s1]
    by_cases s2 : sz x.f0 = 2
    · have hr1 : rd (by1 x ++ r) 1 = x.f1 % 256 := by
        unfold by1 insBytes ins3
        rw [s2]
        simp only [e8]
        rfl
      rw [if_pos s2, hr1]
      by_cases c : x.f0 = 2
      · rw [if_pos c, Bool.and_eq_true, decide_eq_true_eq, decide_eq_true_eq] at h
        rw [if_pos c]
        congr 2
        split <;> omega
      · rw [if_neg c, if_pos s2, Bool.and_eq_true, decide_eq_true_eq, decide_eq_true_eq] at h
        rw [if_neg c, show x.f1 % 256 = x.f1 by omega]
    · have s3 : sz x.f0 = 3 := by omega
      have c : x.f0 ≠ 2 := fun e => by rw [e, sz_two] at s3; cases s3
      have hr1 : rd (by1 x ++ r) 1 = x.f1 % 256 ∧ rd (by1 x ++ r) 2 = x.f1 / 256 % 256 := by
        unfold by1 insBytes ins3
        rw [s3]
        simp only [e8]
        exact ⟨rfl, rfl⟩
      rw [if_neg c, if_neg s2, if_pos s3, Bool.and_eq_true, decide_eq_true_eq, decide_eq_true_eq] at h
      rw [if_neg s2, hr1.1, hr1.2, if_neg c, show x.f1 % 256 + 256 * (x.f1 / 256 % 256) = x.f1 by omega]
theorem allF_cat : ∀ (l pre : List X) (n : Nat), (∀ x ∈ l, mayB x.f0 x.f1 = true) → l.length < n → allF 200 (cat (pre ++ l)) n (cat pre).length = some (placed (cat pre).length l)
  | [], pre, n, _, hn => by
    obtain ⟨n, rfl⟩ : ∃ m, n = m + 1 := ⟨n - 1, by omega⟩
    rw [List.append_nil, allF, if_neg (by omega), placed]
  | x :: l, pre, n, hm, hn => by
    obtain ⟨n, rfl⟩ : ∃ m, n = m + 1 := ⟨n - 1, by omega⟩
    have hx := hm x List.mem_cons_self
    have hz := may_op x hx
    have hl := sz_lo x.f0
    have hb := by1_len x
    have e : cat (pre ++ x :: l) = cat pre ++ (by1 x ++ cat l) := by rw [cat_append, cat_cons]
    have hd : (cat (pre ++ x :: l)).drop (cat pre).length = by1 x ++ cat l := by rw [e, List.drop_left]
    have hle : (cat (pre ++ x :: l)).length = (cat pre).length + ((sz x.f0).toNat + (cat l).length) := by rw [e, List.length_append, List.length_append, hb]
    have h1 : (cat pre).length + (sz x.f0).toNat = (cat (pre ++ [x])).length := by rw [cat_append, cat_one, List.length_append, hb]
    rw [allF, if_pos (by omega), hd, first_is _ (by rw [← hd]; exact ok_drop (cat_ok _) _), fst_by x hx]
    simp only [Option.bind_some]
    rw [if_neg hz, if_pos ⟨by omega, by omega⟩, h1, show pre ++ x :: l = (pre ++ [x]) ++ l by simp, allF_cat l (pre ++ [x]) n (fun y hy => hm y (List.mem_cons_of_mem _ hy)) (by simp at hn; omega), placed, h1]
    rfl
theorem ends_placed : ∀ (l : List X) (i : Nat) (z : Int), i + (cat l).length < 4611686018427387904 → (placed i l).foldl (fun _ x => wrap64 (x.1 + (instr_Size.f 200 x.2.f0).getD 0)) z = if l = [] then z else ((i + (cat l).length : Nat) : Int)
  | [], i, z, _ => by rw [if_pos rfl]; rfl
  | x :: l, i, z, h => by
    have hb := by1_len x
    have hl := sz_lo x.f0
    rw [cat_cons, List.length_append, hb] at h
    rw [placed, List.foldl_cons, ends_placed l _ _ (by omega), if_neg (List.cons_ne_nil x l), cat_cons, List.length_append, hb]
    by_cases c : l = []
    · subst c
      rw [if_pos rfl, size_all]
      show wrap64 ((i : Int) + sz x.f0) = _
      rw [w64 _ (by omega) (by omega)]
      show _ = ((i + ((sz x.f0).toNat + 0) : Nat) : Int)
      omega
    · rw [if_neg c]; omega
theorem len_cat : ∀ l : List X, (∀ x ∈ l, mayB x.f0 x.f1 = true) → l.length ≤ (cat l).length
  | [], _ => by simp
  | x :: l, h => by
    have h1 := len_cat l (fun y hy => h y (List.mem_cons_of_mem _ hy))
    have hz := may_op x (h x List.mem_cons_self)
    have hl := sz_lo x.f0
    rw [cat_cons, List.length_append, by1_len, List.length_cons]
    omega
/-- What was encoded is decoded. -/
theorem dec_cat (l : List X) (hm : ∀ x ∈ l, mayB x.f0 x.f1 = true) (hl : (cat l).length ≤ 4096) : instr_Decode.f (cat l) = some (l, 0, (l.length : Int)) := by
  have hlen := len_cat l hm
  unfold instr_Decode.f
  have ha := allF_cat l [] 5000 hm (by omega)
  simp only [List.nil_append] at ha
  rw [show (cat ([] : List X)).length = 0 from rfl] at ha
  rw [if_neg (by omega), ha]
  simp only [Option.bind_some]
  rw [if_pos (List.all_eq_true.mpr fun y _ => by rw [size_all]; rfl)]
  have he : endsU (placed 0 l) = ((cat l).length : Int) := by
    unfold endsU
    rw [ends_placed l 0 0 (by omega)]
    by_cases c : l = []
    · rw [if_pos c, c]; rfl
    · rw [if_neg c, Nat.zero_add]
  rw [he, if_neg (by omega), placed_snd]
  congr 3
  have := congrArg List.length (placed_snd l 0)
  rw [List.length_map] at this
  rw [this]
end Go.Proofs.Ytdcjbkhfopdgnaa.Pl
