import Derived.Laws.BitsLemmas
import Derived.Test.YtjkjpmfenillcaaInstrAll
import Derived.Test.YtjkjpmfenillcaaPF38
import Derived.Test.YtjkjpmfenillcaaPF20
import Derived.Test.YtjkjpmfenillcaaPF18
import Derived.Test.YtjkjpmfenillcaaPF40
import Derived.Test.YtjkjpmfenillcaaPF16
/- Instructions as bytes, in plain Lean: sizes, what may be, bytes, and that bytes tell their instruction; no statement of the seat. -/
set_option linter.unusedSimpArgs false
set_option linter.unusedVariables false
namespace Go.Proofs.Ytjkjpmfenillcaa.Pl
open Go.RowKit Go.Proofs.Ytjkjpmfenillcaa.P Go.Proofs.YtjkjpmfenillcaaW.PrintWords Go.Proofs.YtjkjpmfenillcaaW.PrintLast Go.Proofs.YtjkjpmfenillcaaW.PrintMore
abbrev X := S47
def sz (a : Int) : Int := (instr_Size.f 200 a).getD 0
theorem sz_in : ((List.range 51).all fun a => (instr_Size.f 200 (a : Int)).isSome && decide (0 ≤ sz a) && decide (sz a ≤ 3) && (pianolaref05_Size.f 3 (a : Int) == some (sz a)) && (instr_Known.f (a : Int) == some (decide (sz a ≠ 0))) && (pianolaref05_Known.f 3 (a : Int) == some (decide (sz a ≠ 0)))) = true := by kernel_rfl
theorem name_out (a : Int) (h : a < 0 ∨ 50 < a) : instr_Name.f a = some (⟨#[]⟩ : ByteArray) := by
  have hr : instr_reckons.f a = some (⟨#[]⟩ : ByteArray) := by
    unfold instr_reckons.f
    repeat' first
      | rw [if_neg (by omega)]
      | rfl
  unfold instr_Name.f
  repeat' first
    | rw [if_neg (by omega)]
  rw [hr]
  rfl
theorem known_out (a : Int) (h : a < 0 ∨ 50 < a) : instr_Known.f a = some false := by
  unfold instr_Known.f
  rw [name_out a h]
  kernel_rfl
theorem rname_out (k : Nat) (a : Int) (h : a < 0 ∨ 50 < a) : pianolaref05_Name.f (k + 1) a = some (⟨#[]⟩ : ByteArray) := by
  unfold pianolaref05_Name.f
  simp only [Option.bind_some]
  by_cases c : a ≥ 0
  · rw [if_pos c, pianolaref05_Name.j0, if_neg (by simp; omega), if_neg (by omega), if_neg (by omega), if_neg (by omega)]
  · rw [if_neg c, pianolaref05_Name.j0, if_neg (by decide), if_neg (by omega), if_neg (by omega), if_neg (by omega)]
theorem rknown_out (k : Nat) (a : Int) (h : a < 0 ∨ 50 < a) : pianolaref05_Known.f (k + 1) a = some false := by
  unfold pianolaref05_Known.f
  rw [rname_out k a h]
  kernel_rfl
theorem size_out (k : Nat) (a : Int) (h : a < 0 ∨ 50 < a) : instr_Size.f (k + 2) a = some 0 := by
  unfold instr_Size.f
  rw [if_neg (by omega), if_neg (by omega), instr_Size.j0, if_neg (by simp; omega), if_neg (by omega), if_neg (by omega), if_neg (by omega), instr_Size.j1, if_neg (by simp; omega), known_out a h]
  rfl
theorem rsize_out (k : Nat) (a : Int) (h : a < 0 ∨ 50 < a) : pianolaref05_Size.f (k + 1) a = some 0 := by
  unfold pianolaref05_Size.f
  rw [rknown_out k a h]
  rfl
theorem sz_out (a : Int) (h : a < 0 ∨ 50 < a) : sz a = 0 := by unfold sz; rw [size_out 198 a h]; rfl
theorem all_in (a : Int) (h0 : 0 ≤ a) (h1 : a ≤ 50) : instr_Size.f 200 a = some (sz a) ∧ 0 ≤ sz a ∧ sz a ≤ 3 ∧ pianolaref05_Size.f 3 a = some (sz a) ∧ instr_Known.f a = some (decide (sz a ≠ 0)) ∧ pianolaref05_Known.f 3 a = some (decide (sz a ≠ 0)) := by
  have h := List.all_eq_true.mp sz_in a.toNat (List.mem_range.mpr (by omega))
  simp only [Bool.and_eq_true, decide_eq_true_eq, beq_iff_eq, Int.toNat_of_nonneg h0] at h
  obtain ⟨⟨⟨⟨⟨h1, h2⟩, h3⟩, h4⟩, h5⟩, h6⟩ := h
  obtain ⟨s, hs⟩ := Option.isSome_iff_exists.mp h1
  exact ⟨by unfold sz; rw [hs]; rfl, h2, h3, h4, h5, h6⟩
theorem size_all (a : Int) : instr_Size.f 200 a = some (sz a) := by
  by_cases h : a < 0 ∨ 50 < a
  · rw [size_out 198 a h, sz_out a h]
  · exact (all_in a (by omega) (by omega)).1
theorem sz_lo (a : Int) : 0 ≤ sz a := by
  by_cases h : a < 0 ∨ 50 < a
  · rw [sz_out a h]; decide
  · exact (all_in a (by omega) (by omega)).2.1
theorem sz_hi (a : Int) : sz a ≤ 3 := by
  by_cases h : a < 0 ∨ 50 < a
  · rw [sz_out a h]; decide
  · exact (all_in a (by omega) (by omega)).2.2.1
theorem rsize_all (k : Nat) (a : Int) : pianolaref05_Size.f (k + 3) a = some (sz a) := by
  by_cases h : a < 0 ∨ 50 < a
  · rw [rsize_out (k + 2) a h, sz_out a h]
  · exact at_rounds (g := fun k => pianolaref05_Size.f k a) (pianolaref05_Size.mono a) (show 3 ≤ k + 3 by omega) (all_in a (by omega) (by omega)).2.2.2.1
theorem known_all (a : Int) : instr_Known.f a = some (decide (sz a ≠ 0)) := by
  by_cases h : a < 0 ∨ 50 < a
  · rw [known_out a h, sz_out a h]; rfl
  · exact (all_in a (by omega) (by omega)).2.2.2.2.1
theorem rknown_all (k : Nat) (a : Int) : pianolaref05_Known.f (k + 3) a = some (decide (sz a ≠ 0)) := by
  by_cases h : a < 0 ∨ 50 < a
  · rw [rknown_out (k + 2) a h, sz_out a h]; rfl
  · exact at_rounds (g := fun k => pianolaref05_Known.f k a) (pianolaref05_Known.mono a) (show 3 ≤ k + 3 by omega) (all_in a (by omega) (by omega)).2.2.2.2.2
theorem sz_two : sz 2 = 2 := by kernel_rfl
theorem op_in (a : Int) (h : sz a ≠ 0) : 0 ≤ a ∧ a ≤ 50 := by
  by_cases c : a < 0 ∨ 50 < a
  · exact absurd (sz_out a c) h
  · omega
/-- May an instruction be? -/
def mayB (a b : Int) : Bool := if a = 2 then decide (-128 ≤ b) && decide (b ≤ 127) else if sz a = 2 then decide (0 ≤ b) && decide (b ≤ 255) else if sz a = 3 then decide (0 ≤ b) && decide (b ≤ 65535) else decide (sz a ≠ 0) && (b == 0)
/-- The bytes of an instruction, of instructions. -/
def ins3 (x : S47) : List Int := [IntKind.u8.wrap x.f0, IntKind.u8.wrap x.f1, IntKind.u8.wrap (x.f1 / 256)]
def insBytes (x : S47) (s : Int) : List Int := (ins3 x).take s.toNat
def by1 (x : X) : List Int := insBytes x (sz x.f0)
def cat (l : List X) : List Int := l.flatMap by1
theorem by1_len (x : X) : (by1 x).length = (sz x.f0).toNat := by
  have := sz_hi x.f0
  unfold by1 insBytes ins3
  rw [List.length_take]; simp; omega
theorem cat_cons (x : X) (l : List X) : cat (x :: l) = by1 x ++ cat l := rfl
theorem cat_append (a b : List X) : cat (a ++ b) = cat a ++ cat b := by unfold cat; rw [List.flatMap_append]
theorem cat_one (x : X) : cat [x] = by1 x := by simp [cat]
/-- What an instruction that may be is of. -/
theorem may_op (x : X) (h : mayB x.f0 x.f1 = true) : sz x.f0 ≠ 0 := by
  unfold mayB at h
  by_cases h2 : x.f0 = 2
  · rw [h2, sz_two]; decide
  · rw [if_neg h2] at h
    by_cases h3 : sz x.f0 = 2
    · omega
    · rw [if_neg h3] at h
      by_cases h4 : sz x.f0 = 3
      · omega
      · rw [if_neg h4, Bool.and_eq_true, decide_eq_true_eq] at h; exact h.1
theorem rd_at (l : List X) (i : Nat) (h : i < l.length) : rd_T47 l (i : Int) = l[i] := by
  unfold rd_T47
  rw [Int.toNat_natCast, List.getD_eq_getElem?_getD, List.getElem?_eq_getElem h]
  rfl
/-- The same instructions are the same. -/
theorem same_l0 (k : Nat) (l : List X) (hx : l.length < 4611686018427387904) : ∀ (d i : Nat), i + d = l.length → pianolalaw05_Same.l0 (k + 1 + d) l l (i : Int) = some true
  | 0, i, h => by rw [Nat.add_zero, pianolalaw05_Same.l0, if_neg (by omega)]
  | d + 1, i, h => by
    rw [show k + 1 + (d + 1) = (k + 1 + d) + 1 by omega, pianolalaw05_Same.l0, if_pos (by omega), if_pos (by omega), if_pos (by omega), if_neg (by simp), show wrap64 ((i : Int) + 1) = ((i + 1 : Nat) : Int) by unfold wrap64; omega]
    exact same_l0 k l hx d (i + 1) (by omega)
theorem same_f (k : Nat) (l : List X) (hx : l.length < 4611686018427387904) : pianolalaw05_Same.f (k + 1 + l.length) l l = some true := by
  unfold pianolalaw05_Same.f
  rw [if_pos rfl]
  exact same_l0 k l hx l.length 0 (by omega)
/-- The instruction with which bytes begin. -/
theorem orb (a b : Int) (ha : 0 ≤ a) (ha1 : a < 256) (hb : 0 ≤ b) (hb1 : b < 256) : Go.bits .or .i64 (a * 256) b = a * 256 + b := by
  have hw : ∀ n : Int, 0 ≤ n → n < 2 ^ 62 → IntKind.i64.wrap n = n := fun n h0 h1 => by
    simp only [IntKind.wrap, IntKind.bits, IntKind.signed]
    simp
    omega
  exact bits_join .i64 62 (by decide) hw 8 (a * 256) b (by omega) (by omega) (by omega) hb (by omega) (by omega)
theorem orz (b : Int) (hb : 0 ≤ b) (hb1 : b < 256) : Go.bits .or .i64 0 b = b := by
  have h := orb 0 b (by omega) (by omega) hb hb1
  simpa using h
/-- What a beginning is, by its bytes. -/
def fstB (b : List Int) : Int × Int × Int :=
  if b.length = 0 then (0, 0, 0) else
  let op := rd b 0
  if sz op = 0 ∨ sz op > b.length then (0, 0, 0) else
  let a := if sz op = 1 then 0 else if sz op = 2 then rd b 1 else rd b 1 + 256 * rd b 2
  if op = 2 then (op, if a > 127 then a - 256 else a, sz op) else (op, a, sz op)
def okB (b : List Int) : Prop := ∀ x ∈ b, 0 ≤ x ∧ x < 256
theorem rd_ok {b : List Int} (h : okB b) (i : Int) : 0 ≤ rd b i ∧ rd b i < 256 := by
  unfold rd
  by_cases c : i.toNat < b.length
  · rw [List.getD_eq_getElem?_getD, List.getElem?_eq_getElem c]; exact h _ (List.getElem_mem c)
  · rw [List.getD_eq_getElem?_getD, List.getElem?_eq_none (by omega)]; exact ⟨by decide, by decide⟩
theorem w64 (n : Int) (h0 : -4611686018427387904 ≤ n) (h1 : n < 4611686018427387904) : wrap64 n = n := by unfold wrap64; omega
theorem first_is (b : List Int) (h : okB b) : instr_first.f 200 b = some (fstB b) := by
  have r0 := rd_ok h 0
  have r1 := rd_ok h 1
  have r2 := rd_ok h 2
  have hz := sz_lo (rd b 0)
  have hh := sz_hi (rd b 0)
  unfold instr_first.f fstB
  rw [w64 (rd b 0) (by omega) (by omega), size_all]
  simp only [Option.bind_some]
  by_cases c : b.length = 0
  · rw [if_pos (by omega), if_pos c]
  · rw [if_neg (by omega), if_neg c, if_pos (by omega)]
    by_cases d : sz (rd b 0) > b.length
    · rw [if_pos d, if_pos (.inr d), instr_first.j0, if_pos rfl]
    · rw [if_neg d]
      by_cases e : sz (rd b 0) = 0
      · rw [if_pos (.inl e), instr_first.j0, if_pos (by rw [e]; rfl)]
      · rw [if_neg (by omega), instr_first.j0, if_neg (by simpa using e)]
        rw [w64 (sz (rd b 0) - 1) (by omega) (by omega)]
        by_cases s1 : sz (rd b 0) = 1
        · rw [instr_first.l0, if_neg (by omega), if_pos s1]
          by_cases t : rd b 0 = 2
          · rw [t, sz_two] at s1; cases s1
          · rw [if_neg t, if_neg t]
        · rw [if_neg s1]
          have i8 : ∀ n : Int, 0 ≤ n → n < 256 → IntKind.i8.wrap n = if n > 127 then n - 256 else n := fun n h0 h1 => by
            simp only [IntKind.wrap, IntKind.bits, IntKind.signed]
            by_cases c : n > 127
            · rw [if_pos c]; simp; omega
            · rw [if_neg c]; simp; omega
          by_cases s2 : sz (rd b 0) = 2
          · rw [if_pos s2, s2, show (2 : Int) - 1 = 1 by rfl, instr_first.l0, if_pos (by decide), if_pos (by decide), if_pos (by omega), show wrap64 ((1 : Int) - 1) = 0 by kernel_rfl, show wrap64 ((0 : Int) * 256) = 0 by kernel_rfl, w64 (rd b 1) (by omega) (by omega), orz _ r1.1 r1.2, instr_first.l0, if_neg (by decide)]
            by_cases t : rd b 0 = 2
            · rw [if_pos t, if_pos t, i8 _ r1.1 r1.2, w64 _ (by split <;> omega) (by split <;> omega)]
            · rw [if_neg t, if_neg t]
          · have s3 : sz (rd b 0) = 3 := by omega
            have t : rd b 0 ≠ 2 := fun t => by rw [t, sz_two] at s3; cases s3
            rw [if_neg s2, s3, show (3 : Int) - 1 = 2 by rfl, instr_first.l0, if_pos (by decide), if_pos (by decide), if_pos (by omega), show wrap64 ((2 : Int) - 1) = 1 by kernel_rfl, show wrap64 ((0 : Int) * 256) = 0 by kernel_rfl, w64 (rd b 2) (by omega) (by omega), orz _ r2.1 r2.2, instr_first.l0, if_pos (by decide), if_pos (by decide), if_pos (by omega), show wrap64 ((1 : Int) - 1) = 0 by kernel_rfl, w64 (rd b 1) (by omega) (by omega), w64 (rd b 2 * 256) (by omega) (by omega), orb _ _ r2.1 r2.2 r1.1 r1.2, instr_first.l0, if_neg (by decide), if_neg t, if_neg t, show rd b 2 * 256 + rd b 1 = rd b 1 + 256 * rd b 2 by omega]
/-- Where instructions stand, from a place on. -/
def placed : Nat → List X → List Ins
  | _, [] => []
  | i, x :: l => ((i : Int), x) :: placed (i + (sz x.f0).toNat) l
theorem placed_snd : ∀ (l : List X) (i : Nat), (placed i l).map (·.2) = l
  | [], _ => rfl
  | x :: l, i => by rw [placed, List.map_cons, placed_snd]
theorem by1_ok (x : X) : okB (by1 x) := by
  intro y hy
  unfold by1 insBytes ins3 at hy
  have hy := List.mem_of_mem_take hy
  have e8 : ∀ n : Int, IntKind.u8.wrap n = n % 256 := fun n => by simp [IntKind.wrap, IntKind.bits, IntKind.signed]
  simp only [e8, List.mem_cons, List.not_mem_nil, or_false] at hy
  omega
theorem cat_ok : ∀ l : List X, okB (cat l)
  | [] => by intro y hy; simp [cat] at hy
  | x :: l => by
    intro y hy
    rw [cat_cons, List.mem_append] at hy
    rcases hy with hy | hy
    · exact by1_ok x y hy
    · exact cat_ok l y hy
theorem ok_drop {b : List Int} (h : okB b) (i : Nat) : okB (b.drop i) := fun y hy => h y (List.mem_of_mem_drop hy)
theorem fst_by (x : X) (h : mayB x.f0 x.f1 = true) (r : List Int) : fstB (by1 x ++ r) = (x.f0, x.f1, sz x.f0) := by
  have hz := may_op x h
  have hi := op_in _ hz
  have hh := sz_hi x.f0
  have hl := sz_lo x.f0
  have e8 : ∀ n : Int, IntKind.u8.wrap n = n % 256 := fun n => by simp [IntKind.wrap, IntKind.bits, IntKind.signed]
  have hlen := by1_len x
  have h0 : ∃ q, by1 x ++ r = x.f0 :: q := by
    unfold by1 insBytes ins3
    obtain ⟨m, hm⟩ : ∃ m, (sz x.f0).toNat = m + 1 := ⟨(sz x.f0).toNat - 1, by omega⟩
    rw [hm, List.take_succ_cons, List.cons_append, e8, show x.f0 % 256 = x.f0 by omega]
    exact ⟨_, rfl⟩
  have hr0 : rd (by1 x ++ r) 0 = x.f0 := by obtain ⟨q, hq⟩ := h0; rw [hq]; rfl
  have hln : (by1 x ++ r).length = (sz x.f0).toNat + r.length := by rw [List.length_append, hlen]
  unfold fstB
  rw [if_neg (by omega)]
  simp only [hr0]
  rw [if_neg (by omega)]
  unfold mayB at h
  by_cases s1 : sz x.f0 = 1
  · have c : x.f0 ≠ 2 := fun e => by rw [e, sz_two] at s1; cases s1
    rw [if_neg c, if_neg (by omega), if_neg (by omega), Bool.and_eq_true, beq_iff_eq] at h
    rw [if_neg c, if_pos s1, h.2]
  · rw [if_neg s1]
    by_cases s2 : sz x.f0 = 2
    · have hr1 : rd (by1 x ++ r) 1 = x.f1 % 256 := by
        unfold by1 insBytes ins3
        rw [s2]
        simp only [e8]
        rfl
      rw [if_pos s2, hr1]
      by_cases c : x.f0 = 2
      · rw [if_pos c, Bool.and_eq_true, decide_eq_true_eq, decide_eq_true_eq] at h
        rw [if_pos c]
        congr 2
        split <;> omega
      · rw [if_neg c, if_pos s2, Bool.and_eq_true, decide_eq_true_eq, decide_eq_true_eq] at h
        rw [if_neg c, show x.f1 % 256 = x.f1 by omega]
    · have s3 : sz x.f0 = 3 := by omega
      have c : x.f0 ≠ 2 := fun e => by rw [e, sz_two] at s3; cases s3
      have hr1 : rd (by1 x ++ r) 1 = x.f1 % 256 ∧ rd (by1 x ++ r) 2 = x.f1 / 256 % 256 := by
        unfold by1 insBytes ins3
        rw [s3]
        simp only [e8]
        exact ⟨rfl, rfl⟩
      rw [if_neg c, if_neg s2, if_pos s3, Bool.and_eq_true, decide_eq_true_eq, decide_eq_true_eq] at h
      rw [if_neg s2, hr1.1, hr1.2, if_neg c, show x.f1 % 256 + 256 * (x.f1 / 256 % 256) = x.f1 by omega]
theorem allF_cat : ∀ (l pre : List X) (n : Nat), (∀ x ∈ l, mayB x.f0 x.f1 = true) → l.length < n → allF 200 (cat (pre ++ l)) n (cat pre).length = some (placed (cat pre).length l)
  | [], pre, n, _, hn => by
    obtain ⟨n, rfl⟩ : ∃ m, n = m + 1 := ⟨n - 1, by omega⟩
    rw [List.append_nil, allF, if_neg (by omega), placed]
  | x :: l, pre, n, hm, hn => by
    obtain ⟨n, rfl⟩ : ∃ m, n = m + 1 := ⟨n - 1, by omega⟩
    have hx := hm x List.mem_cons_self
    have hz := may_op x hx
    have hl := sz_lo x.f0
    have hb := by1_len x
    have e : cat (pre ++ x :: l) = cat pre ++ (by1 x ++ cat l) := by rw [cat_append, cat_cons]
    have hd : (cat (pre ++ x :: l)).drop (cat pre).length = by1 x ++ cat l := by rw [e, List.drop_left]
    have hle : (cat (pre ++ x :: l)).length = (cat pre).length + ((sz x.f0).toNat + (cat l).length) := by rw [e, List.length_append, List.length_append, hb]
    have h1 : (cat pre).length + (sz x.f0).toNat = (cat (pre ++ [x])).length := by rw [cat_append, cat_one, List.length_append, hb]
    rw [allF, if_pos (by omega), hd, first_is _ (by rw [← hd]; exact ok_drop (cat_ok _) _), fst_by x hx]
    simp only [Option.bind_some]
    rw [if_neg hz, if_pos ⟨by omega, by omega⟩, h1, show pre ++ x :: l = (pre ++ [x]) ++ l by simp, allF_cat l (pre ++ [x]) n (fun y hy => hm y (List.mem_cons_of_mem _ hy)) (by simp at hn; omega), placed, h1]
    rfl
theorem ends_placed : ∀ (l : List X) (i : Nat) (z : Int), i + (cat l).length < 4611686018427387904 → (placed i l).foldl (fun _ x => wrap64 (x.1 + (instr_Size.f 200 x.2.f0).getD 0)) z = if l = [] then z else ((i + (cat l).length : Nat) : Int)
  | [], i, z, _ => by rw [if_pos rfl]; rfl
  | x :: l, i, z, h => by
    have hb := by1_len x
    have hl := sz_lo x.f0
    rw [cat_cons, List.length_append, hb] at h
    rw [placed, List.foldl_cons, ends_placed l _ _ (by omega), if_neg (List.cons_ne_nil x l), cat_cons, List.length_append, hb]
    by_cases c : l = []
    · subst c
      rw [if_pos rfl, size_all]
      show wrap64 ((i : Int) + sz x.f0) = _
      rw [w64 _ (by omega) (by omega)]
      show _ = ((i + ((sz x.f0).toNat + 0) : Nat) : Int)
      omega
    · rw [if_neg c]; omega
theorem len_cat : ∀ l : List X, (∀ x ∈ l, mayB x.f0 x.f1 = true) → l.length ≤ (cat l).length
  | [], _ => by simp
  | x :: l, h => by
    have h1 := len_cat l (fun y hy => h y (List.mem_cons_of_mem _ hy))
    have hz := may_op x (h x List.mem_cons_self)
    have hl := sz_lo x.f0
    rw [cat_cons, List.length_append, by1_len, List.length_cons]
    omega
/-- What was encoded is decoded. -/
theorem dec_cat (l : List X) (hm : ∀ x ∈ l, mayB x.f0 x.f1 = true) (hl : (cat l).length ≤ 4096) : instr_Decode.f (cat l) = some (l, 0, (l.length : Int)) := by
  have hlen := len_cat l hm
  unfold instr_Decode.f
  have ha := allF_cat l [] 5000 hm (by omega)
  simp only [List.nil_append] at ha
  rw [show (cat ([] : List X)).length = 0 from rfl] at ha
  rw [if_neg (by omega), ha]
  simp only [Option.bind_some]
  rw [if_pos (List.all_eq_true.mpr fun y _ => by rw [size_all]; rfl)]
  have he : endsU (placed 0 l) = ((cat l).length : Int) := by
    unfold endsU
    rw [ends_placed l 0 0 (by omega)]
    by_cases c : l = []
    · rw [if_pos c, c]; rfl
    · rw [if_neg c, Nat.zero_add]
  rw [he, if_neg (by omega), placed_snd]
  congr 3
  have := congrArg List.length (placed_snd l 0)
  rw [List.length_map] at this
  rw [this]
end Go.Proofs.Ytjkjpmfenillcaa.Pl
/- The reference's first instruction is the program's; plain; no statement of the seat. -/
set_option linter.unusedSimpArgs false
set_option linter.unusedVariables false
namespace Go.Proofs.Ytjkjpmfenillcaa.Pl
open Go.RowKit Go.Proofs.Ytjkjpmfenillcaa.P Go.Proofs.YtjkjpmfenillcaaW.PrintWords Go.Proofs.YtjkjpmfenillcaaW.PrintLast Go.Proofs.YtjkjpmfenillcaaW.PrintMore
theorem rfirst_is (k : Nat) (b : List Int) (h : okB b) : pianolaref05_First.f (k + 5) b = some (fstB b) := by
  have r0 := rd_ok h 0
  have r1 := rd_ok h 1
  have r2 := rd_ok h 2
  have e0 := w64 (rd b 0) (by omega) (by omega)
  have e1 := w64 (rd b 1) (by omega) (by omega)
  have e2 := w64 (rd b 2) (by omega) (by omega)
  have e3 := w64 (256 * rd b 2) (by omega) (by omega)
  have e4 := w64 (rd b 1 + 256 * rd b 2) (by omega) (by omega)
  have hs0 := sz_lo (rd b 0)
  have hs1 := sz_hi (rd b 0)
  have h2 := sz_two
  unfold pianolaref05_First.f fstB
  by_cases h0 : b.length = 0
  · rw [if_pos (by omega), if_pos h0]
  · rw [if_neg (by omega), if_neg h0, if_pos (by omega), e0, rsize_all (k + 2)]
    simp only [Option.bind_some]
    by_cases hz : sz (rd b 0) = 0
    · rw [if_pos hz, if_pos (Or.inl hz)]
      simp only [pianolaref05_First.j0]
      rw [if_pos trivial]
    · rw [if_neg hz]
      simp only [pianolaref05_First.j0]
      by_cases hg : sz (rd b 0) > b.length
      · rw [if_pos (decide_eq_true hg), if_pos (Or.inr hg)]
      · have hor : ¬ (sz (rd b 0) = 0 ∨ sz (rd b 0) > b.length) := fun e => e.elim hz hg
        rw [if_neg (show ¬ (decide (sz (rd b 0) > (b.length : Int)) = true) by simpa using hg), if_neg hor, if_pos (show (0 : Int) < (b.length : Int) by omega), e0]
        by_cases ha : sz (rd b 0) > 1
        · rw [if_pos ha, if_pos (show (1 : Int) < (b.length : Int) by omega), e1]
          simp only [pianolaref05_First.j1]
          by_cases hb : sz (rd b 0) > 2
          · have n1 : ¬ sz (rd b 0) = 1 := by omega
            have n2 : ¬ sz (rd b 0) = 2 := by omega
            rw [if_pos hb, if_pos (show (2 : Int) < (b.length : Int) by omega), e2, e3, e4]
            by_cases ho : rd b 0 = 2
            · rw [ho, h2] at hb; omega
            · simp only [if_neg ho, if_neg n1, if_neg n2]
          · have n1 : ¬ sz (rd b 0) = 1 := by omega
            have n2 : sz (rd b 0) = 2 := by omega
            rw [if_neg hb]
            by_cases ho : rd b 0 = 2
            · simp only [if_pos ho, if_neg n1, if_pos n2]
              by_cases hc : rd b 1 > 127
              · rw [if_pos hc, if_pos hc, w64 (rd b 1 - 256) (by omega) (by omega)]
              · rw [if_neg hc, if_neg hc]
            · simp only [if_neg ho, if_neg n1, if_pos n2]
        · have n1 : sz (rd b 0) = 1 := by omega
          rw [if_neg ha]
          simp only [pianolaref05_First.j1]
          rw [if_neg (show ¬ sz (rd b 0) > 2 by omega)]
          by_cases ho : rd b 0 = 2
          · rw [ho, h2] at ha; omega
          · simp only [if_neg ho, if_pos n1]
end Go.Proofs.Ytjkjpmfenillcaa.Pl
/- What any bytes are as instructions: the instructions gone over, where they end, and that they give the bytes again; plain; no statement of the seat. -/
set_option linter.unusedSimpArgs false
set_option linter.unusedVariables false
namespace Go.Proofs.Ytjkjpmfenillcaa.Pl
open Go.RowKit Go.Proofs.Ytjkjpmfenillcaa.P Go.Proofs.YtjkjpmfenillcaaW.PrintWords Go.Proofs.YtjkjpmfenillcaaW.PrintLast Go.Proofs.YtjkjpmfenillcaaW.PrintMore
theorem fst_cases (b : List Int) (h : okB b) : fstB b = (0, 0, 0) ∨ ∃ (x : X) (s : Int), fstB b = (x.f0, x.f1, s) ∧ s = sz x.f0 ∧ 1 ≤ s ∧ s ≤ b.length ∧ mayB x.f0 x.f1 = true ∧ by1 x = b.take s.toNat := by
  have e8 : ∀ n : Int, IntKind.u8.wrap n = n % 256 := fun n => by simp [IntKind.wrap, IntKind.bits, IntKind.signed]
  by_cases h0 : b.length = 0
  · exact .inl (by unfold fstB; rw [if_pos h0])
  by_cases h1 : sz (rd b 0) = 0 ∨ sz (rd b 0) > b.length
  · exact .inl (by unfold fstB; rw [if_neg h0]; simp only []; rw [if_pos h1])
  right
  obtain ⟨o, b', rfl⟩ : ∃ o b', b = o :: b' := by cases b with | nil => exact absurd rfl h0 | cons o b' => exact ⟨o, b', rfl⟩
  have hr : rd (o :: b') 0 = o := rfl
  have ho := h o List.mem_cons_self
  rw [hr] at h1
  have hz := sz_lo o
  have hh := sz_hi o
  have hz2 := sz_two
  have h2 : fstB (o :: b') = (if o = 2 then (o, if (if sz o = 1 then 0 else if sz o = 2 then rd (o :: b') 1 else rd (o :: b') 1 + 256 * rd (o :: b') 2) > 127 then (if sz o = 1 then 0 else if sz o = 2 then rd (o :: b') 1 else rd (o :: b') 1 + 256 * rd (o :: b') 2) - 256 else (if sz o = 1 then 0 else if sz o = 2 then rd (o :: b') 1 else rd (o :: b') 1 + 256 * rd (o :: b') 2), sz o) else (o, (if sz o = 1 then 0 else if sz o = 2 then rd (o :: b') 1 else rd (o :: b') 1 + 256 * rd (o :: b') 2), sz o)) := by
    unfold fstB
    rw [if_neg h0]
    simp only [hr]
    rw [if_neg h1]
  by_cases s1 : sz o = 1
  · have t : o ≠ 2 := fun e => by rw [e, sz_two] at s1; cases s1
    refine ⟨⟨o, 0⟩, sz o, ?_, rfl, by omega, by omega, ?_, ?_⟩
    · rw [h2, if_neg t, if_pos s1]
    · show mayB o 0 = true
      unfold mayB
      rw [if_neg t, if_neg (by omega), if_neg (by omega)]
      simp; omega
    · show (ins3 ⟨o, 0⟩).take (sz o).toNat = _
      unfold ins3
      simp only [e8]
      rw [s1]
      show [o % 256] = [o]
      rw [show o % 256 = o by omega]
  · obtain ⟨p, b2, rfl⟩ : ∃ p b2, b' = p :: b2 := by
      cases b' with
      | nil => exfalso; simp only [List.length_singleton] at h1; omega
      | cons p b2 => exact ⟨p, b2, rfl⟩
    have hp := h p (by simp)
    have hr1 : rd (o :: p :: b2) 1 = p := rfl
    rw [hr1] at h2
    by_cases s2 : sz o = 2
    · rw [if_neg s1, if_pos s2] at h2
      by_cases t : o = 2
      · rw [if_pos t] at h2
        refine ⟨⟨o, if p > 127 then p - 256 else p⟩, sz o, h2, rfl, by omega, by simp only [List.length_cons] at h1 ⊢; omega, ?_, ?_⟩
        · show mayB o (if p > 127 then p - 256 else p) = true
          unfold mayB
          rw [if_pos t, Bool.and_eq_true, decide_eq_true_eq, decide_eq_true_eq]
          split <;> omega
        · show (ins3 ⟨o, _⟩).take (sz o).toNat = _
          unfold ins3
          simp only [e8]
          rw [s2]
          show [o % 256, (if p > 127 then p - 256 else p) % 256] = [o, p]
          rw [show o % 256 = o by omega, show (if p > 127 then p - 256 else p) % 256 = p by split <;> omega]
      · rw [if_neg t] at h2
        refine ⟨⟨o, p⟩, sz o, h2, rfl, by omega, by simp only [List.length_cons] at h1 ⊢; omega, ?_, ?_⟩
        · show mayB o p = true
          unfold mayB
          rw [if_neg t, if_pos s2, Bool.and_eq_true, decide_eq_true_eq, decide_eq_true_eq]
          omega
        · show (ins3 ⟨o, p⟩).take (sz o).toNat = _
          unfold ins3
          simp only [e8]
          rw [s2]
          show [o % 256, p % 256] = [o, p]
          rw [show o % 256 = o by omega, show p % 256 = p by omega]
    · have s3 : sz o = 3 := by omega
      have t : o ≠ 2 := fun e => by rw [e, sz_two] at s3; cases s3
      obtain ⟨q, b3, rfl⟩ : ∃ q b3, b2 = q :: b3 := by
        cases b2 with
        | nil => exfalso; simp only [List.length_cons, List.length_nil] at h1; omega
        | cons q b3 => exact ⟨q, b3, rfl⟩
      have hq := h q (by simp)
      have hr2 : rd (o :: p :: q :: b3) 2 = q := rfl
      rw [hr2, if_neg t, if_neg s1, if_neg s2] at h2
      refine ⟨⟨o, p + 256 * q⟩, sz o, h2, rfl, by omega, by simp only [List.length_cons] at h1 ⊢; omega, ?_, ?_⟩
      · show mayB o (p + 256 * q) = true
        unfold mayB
        rw [if_neg t, if_neg s2, if_pos s3, Bool.and_eq_true, decide_eq_true_eq, decide_eq_true_eq]
        omega
      · show (ins3 ⟨o, p + 256 * q⟩).take (sz o).toNat = _
        unfold ins3
        simp only [e8]
        rw [s3]
        show [o % 256, (p + 256 * q) % 256, (p + 256 * q) / 256 % 256] = [o, p, q]
        rw [show o % 256 = o by omega, show (p + 256 * q) % 256 = p by omega, show (p + 256 * q) / 256 % 256 = q by omega]
/-- What is gone over, and where it ends. -/
def gone (b : List Int) : Nat → Nat → List Ins × Nat
  | 0, at_ => ([], at_)
  | n + 1, at_ => if at_ < b.length then (if (fstB (b.drop at_)).2.2 = 0 then ([], at_) else
      (((at_ : Int), (⟨(fstB (b.drop at_)).1, (fstB (b.drop at_)).2.1⟩ : X)) :: (gone b n (at_ + (fstB (b.drop at_)).2.2.toNat)).1, (gone b n (at_ + (fstB (b.drop at_)).2.2.toNat)).2)) else ([], at_)
/-- The step: either it ends, or an instruction stands there. -/
theorem gone_step (b : List Int) (h : okB b) (at_ : Nat) (ha : at_ < b.length) : fstB (b.drop at_) = (0, 0, 0) ∨ ∃ (x : X) (s : Nat), fstB (b.drop at_) = (x.f0, x.f1, (s : Int)) ∧ (s : Int) = sz x.f0 ∧ 1 ≤ s ∧ s ≤ 3 ∧ at_ + s ≤ b.length ∧ mayB x.f0 x.f1 = true ∧ by1 x = (b.drop at_).take s := by
  rcases fst_cases (b.drop at_) (ok_drop h at_) with e | ⟨x, s, e, h1, h2, h3, h4, h5⟩
  · exact .inl e
  · have := sz_hi x.f0
    rw [List.length_drop] at h3
    refine .inr ⟨x, s.toNat, ?_, by omega, by omega, by omega, by omega, h4, h5⟩
    rw [e, Int.toNat_of_nonneg (by omega)]
theorem gone_le (b : List Int) (h : okB b) : ∀ (n at_ : Nat), at_ ≤ b.length → at_ ≤ (gone b n at_).2 ∧ (gone b n at_).2 ≤ b.length ∧ (gone b n at_).1.length ≤ (gone b n at_).2 - at_
  | 0, at_, ha => ⟨Nat.le_refl _, ha, Nat.zero_le _⟩
  | n + 1, at_, ha => by
    rw [gone]
    by_cases c : at_ < b.length
    · rw [if_pos c]
      rcases gone_step b h at_ c with e | ⟨x, s, e, h1, h2, h3, h4, h5, h6⟩
      · rw [e, if_pos rfl]; exact ⟨Nat.le_refl _, ha, Nat.zero_le _⟩
      · rw [e, if_neg (by simp only []; omega)]
        simp only [Int.toNat_natCast, List.length_cons]
        have ih := gone_le b h n (at_ + s) h4
        omega
    · rw [if_neg c]; exact ⟨Nat.le_refl _, ha, Nat.zero_le _⟩
theorem allF_gone (b : List Int) (h : okB b) : ∀ (n at_ : Nat), b.length - at_ < n → allF 200 b n at_ = some (gone b n at_).1
  | 0, _, hn => absurd hn (by omega)
  | n + 1, at_, hn => by
    rw [allF, gone]
    by_cases c : at_ < b.length
    · rw [if_pos c, if_pos c, first_is _ (ok_drop h at_)]
      simp only [Option.bind_some]
      rcases gone_step b h at_ c with e | ⟨x, s, e, h1, h2, h3, h4, h5, h6⟩
      · rw [e, if_pos rfl, if_pos rfl]
      · rw [e, if_neg (by simp only []; omega), if_pos (by simp only []; omega), if_neg (by simp only []; omega)]
        simp only [Int.toNat_natCast]
        rw [allF_gone b h n (at_ + s) (by omega)]
        rfl
    · rw [if_neg c, if_neg c]
/-- More rounds than bytes are left give no more. -/
theorem gone_more (b : List Int) (h : okB b) : ∀ (n m at_ : Nat), b.length - at_ < n → b.length - at_ < m → gone b n at_ = gone b m at_
  | 0, _, _, hn, _ => absurd hn (by omega)
  | _, 0, _, _, hm => absurd hm (by omega)
  | n + 1, m + 1, at_, hn, hm => by
    rw [gone, gone]
    by_cases c : at_ < b.length
    · rw [if_pos c, if_pos c]
      rcases gone_step b h at_ c with e | ⟨x, s, e, h1, h2, h3, h4, h5, h6⟩
      · rw [e, if_pos rfl, if_pos rfl]
      · rw [e]
        simp only [Int.toNat_natCast]
        rw [gone_more b h n m (at_ + s) (by omega) (by omega)]
    · rw [if_neg c, if_neg c]
theorem ends_gone (b : List Int) (h : okB b) (hl : b.length ≤ 4611686018427387904) : ∀ (n at_ : Nat), at_ ≤ b.length → (gone b n at_).1.foldl (fun _ (x : Ins) => wrap64 (x.1 + (instr_Size.f 200 x.2.f0).getD 0)) (at_ : Int) = ((gone b n at_).2 : Int)
  | 0, _, _ => rfl
  | n + 1, at_, ha => by
    rw [gone]
    by_cases c : at_ < b.length
    · rw [if_pos c]
      rcases gone_step b h at_ c with e | ⟨x, s, e, h1, h2, h3, h4, h5, h6⟩
      · rw [e, if_pos rfl]; rfl
      · rw [e, if_neg (by simp only []; omega)]
        simp only [Int.toNat_natCast, List.foldl_cons]
        rw [size_all, Option.getD_some, ← h1, show wrap64 ((at_ : Int) + (s : Int)) = ((at_ + s : Nat) : Int) by unfold wrap64; omega]
        exact ends_gone b h hl n (at_ + s) h4
    · rw [if_neg c]; rfl
theorem cat_gone (b : List Int) (h : okB b) : ∀ (n at_ : Nat), at_ ≤ b.length → cat ((gone b n at_).1.map (·.2)) = (b.drop at_).take ((gone b n at_).2 - at_) ∧ ∀ x ∈ (gone b n at_).1.map (·.2), mayB x.f0 x.f1 = true
  | 0, at_, _ => by
    rw [gone]
    simp [cat]
  | n + 1, at_, ha => by
    rw [gone]
    by_cases c : at_ < b.length
    · rw [if_pos c]
      rcases gone_step b h at_ c with e | ⟨x, s, e, h1, h2, h3, h4, h5, h6⟩
      · rw [e, if_pos rfl]; simp [cat]
      · rw [e, if_neg (by simp only []; omega)]
        simp only [Int.toNat_natCast, List.map_cons]
        obtain ⟨ih1, ih2⟩ := cat_gone b h n (at_ + s) h4
        obtain ⟨g1, g2, g3⟩ := gone_le b h n (at_ + s) h4
        refine ⟨?_, ?_⟩
        · rw [cat_cons]
          show by1 x ++ _ = _
          rw [ih1, h6, show (gone b n (at_ + s)).2 - at_ = s + ((gone b n (at_ + s)).2 - (at_ + s)) by omega, List.take_add, List.drop_drop]
        · intro y hy
          rcases List.mem_cons.mp hy with rfl | hy
          · exact h5
          · exact ih2 y hy
    · rw [if_neg c]; simp [cat]
/-- What any bytes are. -/
def decR (b : List Int) : List X × Int × Int := if (b.length : Int) > 4096 then ([], 3, 0) else if ((gone b (b.length + 1) 0).2 : Int) < b.length then ([], 50, ((gone b (b.length + 1) 0).2 : Int)) else ((gone b (b.length + 1) 0).1.map (·.2), 0, ((gone b (b.length + 1) 0).1.length : Int))
theorem dec_all (b : List Int) (h : okB b) : instr_Decode.f b = some (decR b) := by
  unfold instr_Decode.f decR
  by_cases c : (b.length : Int) > 4096
  · rw [if_pos c, if_pos c]
  · rw [if_neg c, if_neg c, allF_gone b h 5000 0 (by omega), gone_more b h 5000 (b.length + 1) 0 (by omega) (by omega)]
    simp only [Option.bind_some]
    rw [if_pos (List.all_eq_true.mpr fun y _ => by rw [size_all]; rfl)]
    have he : endsU (gone b (b.length + 1) 0).1 = ((gone b (b.length + 1) 0).2 : Int) := ends_gone b h (by omega) (b.length + 1) 0 (by omega)
    rw [he]
    split <;> rfl
theorem rdec_l0 (b : List Int) (h : okB b) (hl : b.length ≤ 4096) : ∀ (n at_ : Nat) (k : Nat) (acc : List X), at_ ≤ b.length → b.length - at_ < n → acc.length ≤ at_ →
    pianolaref05_Decode.l0 (k + 6 + n) b acc (at_ : Int) = some (if ((gone b n at_).2 : Int) < b.length then ([], 50, ((gone b n at_).2 : Int)) else (acc ++ (gone b n at_).1.map (·.2), 0, ((acc ++ (gone b n at_).1.map (·.2)).length : Int)))
  | 0, _, _, _, _, hn, _ => absurd hn (by omega)
  | n + 1, at_, k, acc, ha, hn, hacc => by
    rw [show k + 6 + (n + 1) = (k + 6 + n) + 1 by omega, pianolaref05_Decode.l0, gone]
    by_cases c : at_ < b.length
    · rw [if_pos (by omega), if_pos (by omega), if_pos (by omega), if_pos c, Int.toNat_natCast, show k + 6 + n = (k + 1 + n) + 5 by omega, rfirst_is _ _ (ok_drop h at_)]
      simp only [Option.bind_some]
      rcases gone_step b h at_ c with e | ⟨x, s, e, h1, h2, h3, h4, h5, h6⟩
      · rw [e, if_pos rfl, if_pos rfl, if_pos (by simp only []; omega)]
      · rw [e, if_neg (by simp only []; omega), if_pos (by omega)]
        simp only [Int.toNat_natCast, show ¬ ((s : Int) = 0) by omega, if_false]
        rw [show wrap64 ((at_ : Int) + (s : Int)) = ((at_ + s : Nat) : Int) by unfold wrap64; omega, show k + 1 + n + 5 = k + 6 + n by omega, rdec_l0 b h hl n (at_ + s) k (acc ++ [x]) h4 (by omega) (by rw [List.length_append, List.length_singleton]; omega)]
        simp only [List.append_assoc, List.singleton_append, List.map_cons]
    · rw [if_neg (by omega), if_neg c, if_neg (by simp only []; omega)]
      simp
theorem rdec_all (b : List Int) (h : okB b) (k : Nat) : pianolaref05_Decode.f (k + 6 + (b.length + 1)) b = some (decR b) := by
  unfold pianolaref05_Decode.f decR
  by_cases c : (b.length : Int) > 4096
  · rw [if_pos c, if_pos c]
  · rw [if_neg c, if_neg c]
    have := rdec_l0 b h (by omega) (b.length + 1) 0 k [] (by omega) (by omega) (by simp)
    simp only [List.nil_append, List.length_map] at this
    exact this
end Go.Proofs.Ytjkjpmfenillcaa.Pl
/- What lies in memory while a code's instructions are gone over; plain facts of where they stand; no statement of the seat. -/
set_option linter.unusedVariables false
set_option linter.unusedSimpArgs false
namespace Go.Proofs.Ytjkjpmfenillcaa.P
open Go.RowKit Go.Proofs.Ytjkjpmfenillcaa.Pl Go.Proofs.YtjkjpmfenillcaaW.PrintWords Go.Proofs.YtjkjpmfenillcaaW.PrintLast Go.Proofs.YtjkjpmfenillcaaW.PrintMore
/-- Where the k-th instruction stands. -/
def atK (l : List X) (k : Nat) : Nat := (cat (l.take k)).length
theorem atK_zero (l : List X) : atK l 0 = 0 := by unfold atK; rfl
theorem atK_all (l : List X) : atK l l.length = (cat l).length := by unfold atK; rw [List.take_length]
theorem atK_next (l : List X) (k : Nat) (x : X) (h : l[k]? = some x) : atK l (k + 1) = atK l k + (sz x.f0).toNat := by
  unfold atK
  rw [List.take_add_one, h, Option.toList_some, cat_append, List.length_append, cat_one, by1_len]
theorem atK_le (l : List X) (k : Nat) : atK l k ≤ (cat l).length := by
  have h : cat l = cat (l.take k) ++ cat (l.drop k) := by rw [← cat_append, List.take_append_drop]
  rw [h, List.length_append]
  unfold atK
  omega
theorem placed_get : ∀ (l : List X) (i k : Nat) (x : X), l[k]? = some x → (placed i l)[k]? = some (((i + atK l k : Nat) : Int), x)
  | [], i, k, x, h => by simp at h
  | y :: l, i, 0, x, h => by
    simp only [List.getElem?_cons_zero, Option.some.injEq] at h
    subst h
    rw [placed, List.getElem?_cons_zero, atK_zero]
    rfl
  | y :: l, i, k + 1, x, h => by
    rw [placed, List.getElem?_cons_succ, placed_get l (i + (sz y.f0).toNat) k x (by simpa using h)]
    have e : atK (y :: l) (k + 1) = (sz y.f0).toNat + atK l k := by
      unfold atK
      rw [List.take_succ_cons, cat_cons, List.length_append, by1_len]
    rw [e, Nat.add_assoc]
theorem placed_len (l : List X) (i : Nat) : (placed i l).length = l.length := by
  have := congrArg List.length (placed_snd l i)
  rw [List.length_map] at this
  exact this
variable {w W W1 : World} {Bs B7 n c0 m c1 : Nat} {A0 A1 : Option Addr} {a k : Int}
end Go.Proofs.Ytjkjpmfenillcaa.P
