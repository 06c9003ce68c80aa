/- codec, in plain Lean: lists of numbers and what they are written as; no statement of the seat. -/
import Derived.Test.YtdlkkjfbbeffbaaCodecPl2
set_option linter.unusedVariables false
set_option linter.unusedSimpArgs false
namespace Go.Proofs.Ytdlkkjfbbeffbaa.P
open Go.RowKit Go.Proofs.YtdlkkjfbbeffbaaW.PrintWords Go.Proofs.YtdlkkjfbbeffbaaW.PrintLast Go.Proofs.YtdlkkjfbbeffbaaW.PrintMore
def flat8 (l : List Int) : List Int := l.flatMap fun x => leB x 8
theorem flat8_cons (x : Int) (l : List Int) : flat8 (x :: l) = leB x 8 ++ flat8 l := rfl
theorem flat8_length : ∀ l : List Int, (flat8 l).length = 8 * l.length
  | [] => rfl
  | x :: l => by rw [flat8_cons, List.length_append, leB_length, flat8_length l, List.length_cons]; omega
theorem manyGo_ints : ∀ (l bs : List Int), bs.length + 8 * l.length ≤ 1048576 → manyGo (fun s x => numS s 8 0 x) l (bs, 0) = (bs ++ flat8 l, 0)
  | [], bs, _ => by simp [manyGo, flat8]
  | x :: l, bs, h => by
    have hl := leB_length x 8
    rw [List.length_cons] at h
    have hs : numS (bs, 0) 8 0 x = (bs ++ leB x 8, 0) := by
      rw [numS_ok _ _ _ _ rfl (.inl rfl)]
      unfold putS
      rw [if_neg (by simp), if_neg (by simp only [hl]; omega)]
    rw [manyGo, if_pos rfl, hs, manyGo_ints l (bs ++ leB x 8) (by rw [List.length_append, hl]; omega), flat8_cons, List.append_assoc]
def codeI (l : List Int) : List Int := leB (l.length : Int) 2 ++ flat8 l
theorem codeI_length (l : List Int) : (codeI l).length = 2 + 8 * l.length := by unfold codeI; rw [List.length_append, leB_length, flat8_length]
theorem encR_ints (l : List Int) : encR (manyS (fun s x => numS s 8 0 x) ([], 0) l) = if l.length ≤ 4096 then (codeI l, 0) else ([], 1) := by
  have hl := leB_length (l.length : Int) 2
  unfold manyS
  rw [num_pair 2 4096 _ (by decide)]
  by_cases h : l.length ≤ 4096
  · rw [if_pos h, if_pos (.inr ⟨by omega, by omega⟩), manyGo_ints _ _ (by rw [hl]; omega)]
    rfl
  · rw [if_neg h, if_neg (by rintro (h | h) <;> omega), manyGo_stop _ _ _ (by simp)]
    rfl
theorem flat8_ok : ∀ l : List Int, okB (flat8 l)
  | [] => by intro y hy; simp [flat8] at hy
  | x :: l => by
    intro y hy
    rw [flat8_cons] at hy
    rcases List.mem_append.mp hy with h | h
    · exact leB_ok x 8 y h
    · exact flat8_ok l y h
theorem codeI_ok (l : List Int) : okB (codeI l) := by
  intro y hy
  unfold codeI at hy
  rcases List.mem_append.mp hy with h | h
  · exact leB_ok _ _ y h
  · exact flat8_ok l y h
theorem leB8_inj (x y : Int) (hx : i64 x) (hy : i64 y) (h : leB x 8 = leB y 8) : x = y := by
  have h2 := leN_leB x 8
  rw [h, leN_leB y 8] at h2
  unfold i64 at hx hy
  simp only [Int.reducePow] at h2
  omega
theorem flat8_inj : ∀ (a b t : List Int), a.length = b.length → (∀ x ∈ a, i64 x) → (∀ x ∈ b, i64 x) → flat8 a ++ t = flat8 b → a = b
  | [], [], _, _, _, _, _ => rfl
  | [], _ :: _, _, h, _, _, _ => by simp at h
  | _ :: _, [], _, h, _, _, _ => by simp at h
  | x :: a, y :: b, t, h, ha, hb, he => by
    rw [flat8_cons, flat8_cons, List.append_assoc] at he
    obtain ⟨h1, h2⟩ := List.append_inj he (by rw [leB_length, leB_length])
    obtain rfl := leB8_inj x y (ha x (by simp)) (hb y (by simp)) h1
    rw [flat8_inj a b t (by simpa using h) (fun z hz => ha z (by simp [hz])) (fun z hz => hb z (by simp [hz])) h2]
/-- The code of a list is the beginning of another's code just if the lists are the same. -/
theorem codeI_inj (a b : List Int) (la : a.length ≤ 4096) (lb : b.length ≤ 4096) (ha : ∀ x ∈ a, i64 x) (hb : ∀ x ∈ b, i64 x) (h : (codeI b).take (codeI a).length = codeI a) : a = b := by
  obtain ⟨t, ht⟩ : ∃ t, codeI a ++ t = codeI b := ⟨(codeI b).drop (codeI a).length, by
    have h1 := List.take_append_drop (codeI a).length (codeI b)
    rwa [h] at h1⟩
  unfold codeI at ht
  rw [List.append_assoc] at ht
  obtain ⟨h1, h2⟩ := List.append_inj ht (by rw [leB_length, leB_length])
  have h3 := leN_leB (a.length : Int) 2
  rw [h1, leN_leB (b.length : Int) 2] at h3
  simp only [Int.reducePow] at h3
  exact flat8_inj a b t (by omega) ha hb h2
def okInts (b : List Int) : Bool := b.all fun x => decide (-9223372036854775808 ≤ x) && decide (x < 9223372036854775808)
theorem okInts_is {b : List Int} (h : okInts b = true) : ∀ x ∈ b, i64 x := by
  unfold okInts at h
  rw [List.all_eq_true] at h
  intro x hx
  have := h x hx
  rw [Bool.and_eq_true, decide_eq_true_eq, decide_eq_true_eq] at this
  exact this
theorem okInts_of (b : List Int) (h : ∀ y ∈ b, (Lit.int .i64 y).wf = true) : okInts b = true := by
  unfold okInts
  rw [List.all_eq_true]
  intro x hx
  have := h x hx
  simp [Lit.wf, IntKind.min, IntKind.max, IntKind.bits, IntKind.signed] at this
  rw [Bool.and_eq_true, decide_eq_true_eq, decide_eq_true_eq]
  omega
/-- Two strings of bytes are the same just if the bytes are. -/
theorem strOf_ne {a b : List Int} (ha : okB a) (hb : okB b) (h : a ≠ b) : ((strOfNums a).toList == (strOfNums b).toList) = false := by
  rw [beq_eq_false_iff_ne]
  intro e
  rw [ByteArray.toList_eq, ByteArray.toList_eq] at e
  have h1 : strOfNums a = strOfNums b := ByteArray.ext (Array.toList_inj.mp e)
  have h2 := congrArg bytesOf h1
  rw [strOf_bytes a ha, strOf_bytes b hb] at h2
  exact h h2
theorem take_step (a b : List Int) (k : Nat) (ha : k < a.length) (hb : k < b.length) (h : a.take k = b.take k) : decide (a.take (k + 1) = b.take (k + 1)) = (rd a (k : Int) == rd b (k : Int)) := by
  have e : ∀ l : List Int, k < l.length → l.take (k + 1) = l.take k ++ [rd l (k : Int)] := by
    intro l hl
    rw [List.take_add_one, List.getElem?_eq_getElem hl]
    unfold rd
    rw [Int.toNat_natCast, List.getD_eq_getElem?_getD, List.getElem?_eq_getElem hl]
    rfl
  rw [e a ha, e b hb, h]
  by_cases hx : rd a (k : Int) = rd b (k : Int)
  · rw [hx]; simp
  · have h1 : (rd a (k : Int) == rd b (k : Int)) = false := by rw [beq_eq_false_iff_ne]; exact hx
    rw [h1, decide_eq_false_iff_not]
    intro h2
    exact hx (by simpa using h2)
end Go.Proofs.Ytdlkkjfbbeffbaa.P
