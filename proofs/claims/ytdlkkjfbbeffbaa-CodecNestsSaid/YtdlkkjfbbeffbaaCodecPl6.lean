/- codec, in plain Lean: lists of lists of bytes; no statement of the seat. -/
import Derived.Test.YtdlkkjfbbeffbaaCodecPl5
set_option linter.unusedVariables false
set_option linter.unusedSimpArgs false
namespace Go.Proofs.Ytdlkkjfbbeffbaa.P
open Go.RowKit Go.Proofs.YtdlkkjfbbeffbaaW.PrintWords Go.Proofs.YtdlkkjfbbeffbaaW.PrintLast Go.Proofs.YtdlkkjfbbeffbaaW.PrintMore
/-- A row of the nested list: few numbers, each a byte. -/
def okRow (row : List Int) : Prop := row.length ≤ 100 ∧ ∀ x ∈ row, 0 ≤ x ∧ x < 256
def flat1 (row : List Int) : List Int := row.flatMap fun x => leB x 1
theorem flat1_cons (x : Int) (l : List Int) : flat1 (x :: l) = leB x 1 ++ flat1 l := rfl
theorem flat1_length : ∀ l : List Int, (flat1 l).length = l.length
  | [] => rfl
  | x :: l => by rw [flat1_cons, List.length_append, leB_length, flat1_length l, List.length_cons]; omega
def rowN (row : List Int) : List Int := leB (row.length : Int) 2 ++ flat1 row
theorem rowN_length (row : List Int) : (rowN row).length = 2 + row.length := by unfold rowN; rw [List.length_append, leB_length, flat1_length]
def flatN (l : List (List Int)) : List Int := l.flatMap rowN
theorem flatN_cons (x : List Int) (l : List (List Int)) : flatN (x :: l) = rowN x ++ flatN l := rfl
theorem flatN_length : ∀ l : List (List Int), (∀ x ∈ l, okRow x) → (flatN l).length ≤ 102 * l.length
  | [], _ => Nat.le_refl _
  | x :: l, h => by
    have h1 := flatN_length l (fun y hy => h y (by simp [hy]))
    have h2 := (h x (by simp)).1
    rw [flatN_cons, List.length_append, rowN_length, List.length_cons]
    omega
def codeN (l : List (List Int)) : List Int := leB (l.length : Int) 2 ++ flatN l
theorem numS_fwd (bs : List Int) (n : Nat) (most x : Int) (h : okN n most x) (hl : bs.length + n ≤ 1048576) : numS (bs, 0) n most x = (bs ++ leB x n, 0) := by
  have hb := leB_length x n
  rw [numS_ok _ _ _ _ rfl h]
  unfold putS
  rw [if_neg (by simp), if_neg (by simp only [hb]; omega)]
theorem manyGo_row : ∀ (l bs : List Int), (∀ x ∈ l, 0 ≤ x ∧ x < 256) → bs.length + l.length ≤ 1048576 → manyGo (fun s x => numS s 1 255 x) l (bs, 0) = (bs ++ flat1 l, 0)
  | [], bs, _, _ => by simp [manyGo, flat1]
  | x :: l, bs, h, hl => by
    rw [List.length_cons] at hl
    have hx := h x (by simp)
    rw [manyGo, if_pos rfl, numS_fwd bs 1 255 x (.inr ⟨hx.1, by omega⟩) (by omega), manyGo_row l _ (fun y hy => h y (by simp [hy])) (by rw [List.length_append, leB_length]; omega), flat1_cons, List.append_assoc]
theorem manyS_row (row bs : List Int) (h : okRow row) (hl : bs.length + 102 ≤ 1048576) : manyS (fun s x => numS s 1 255 x) (bs, 0) row = (bs ++ rowN row, 0) := by
  have hr := h.1
  unfold manyS
  rw [numS_fwd bs 2 4096 _ (.inr ⟨by omega, by omega⟩) (by omega), manyGo_row row _ h.2 (by rw [List.length_append, leB_length]; omega), List.append_assoc]
  rfl
theorem manyGo_rows : ∀ (l : List (List Int)) (bs : List Int), (∀ x ∈ l, okRow x) → bs.length + 102 * l.length ≤ 1048576 → manyGo (manyS (fun s x => numS s 1 255 x)) l (bs, 0) = (bs ++ flatN l, 0)
  | [], bs, _, _ => by simp [manyGo, flatN]
  | x :: l, bs, h, hl => by
    rw [List.length_cons] at hl
    have hx := (h x (by simp)).1
    rw [manyGo, if_pos rfl, manyS_row x bs (h x (by simp)) (by omega), manyGo_rows l _ (fun y hy => h y (by simp [hy])) (by rw [List.length_append, rowN_length]; omega), flatN_cons, List.append_assoc]
theorem encR_rows (l : List (List Int)) (h : ∀ x ∈ l, okRow x) (hl : l.length ≤ 100) : encR (manyS (manyS (fun s x => numS s 1 255 x)) ([], 0) l) = (codeN l, 0) := by
  unfold manyS
  rw [numS_fwd [] 2 4096 _ (.inr ⟨by omega, by omega⟩) (by simp)]
  have hg := manyGo_rows l ([] ++ leB (l.length : Int) 2) h (by rw [List.length_append, leB_length]; simp; omega)
  unfold manyS at hg
  rw [hg]
  rfl
theorem manyIn_row : ∀ (l acc r : List Int), (∀ x ∈ l, 0 ≤ x ∧ x < 256) → manyIn (fun s => lowI s ((1 : Nat) : Int) 255) l.length acc (flat1 l ++ r, false) = (acc ++ l, r, false)
  | [], acc, r, _ => by simp [manyIn, flat1]
  | x :: l, acc, r, h => by
    have hx := h x (by simp)
    have hl := low_leB x 1 255 (.inl ⟨rfl, rfl⟩) ⟨by omega, by omega⟩ (.inr ⟨hx.1, by omega⟩) (flat1 l ++ r)
    rw [List.length_cons, manyIn, if_neg (by simp), flat1_cons, List.append_assoc, hl]
    dsimp only
    rw [manyIn_row l _ r (fun y hy => h y (by simp [hy])), List.append_assoc]
    rfl
theorem manyR_row (row r : List Int) (h : okRow row) : manyR (fun s => lowI s ((1 : Nat) : Int) 255) (rowN row ++ r, false) = (row, r, false) := by
  have hr := h.1
  have hl := low_leB (row.length : Int) 2 4096 (.inr (.inr (.inr (.inl ⟨rfl, rfl⟩)))) ⟨by omega, by omega⟩ (.inr ⟨by omega, by omega⟩) (flat1 row ++ r)
  unfold manyR rowN
  rw [List.append_assoc, show lowI (leB (row.length : Int) 2 ++ (flat1 row ++ r), false) 2 4096 = _ from hl]
  dsimp only
  rw [Int.toNat_natCast, manyIn_row row [] r h.2, List.nil_append]
theorem manyIn_rows : ∀ (l acc : List (List Int)) (r : List Int), (∀ x ∈ l, okRow x) → manyIn (manyR (fun s => lowI s ((1 : Nat) : Int) 255)) l.length acc (flatN l ++ r, false) = (acc ++ l, r, false)
  | [], acc, r, _ => by simp [manyIn, flatN]
  | x :: l, acc, r, h => by
    rw [List.length_cons, manyIn, if_neg (by simp), flatN_cons, List.append_assoc, manyR_row x _ (h x (by simp))]
    dsimp only
    rw [manyIn_rows l _ r (fun y hy => h y (by simp [hy])), List.append_assoc]
    rfl
theorem codeN_length (l : List (List Int)) (h : ∀ x ∈ l, okRow x) (hl : l.length ≤ 100) : 2 ≤ (codeN l).length ∧ (codeN l).length ≤ 10202 := by
  have h1 := flatN_length l h
  unfold codeN
  rw [List.length_append, leB_length]
  omega
theorem decR_rows (l : List (List Int)) (h : ∀ x ∈ l, okRow x) (hl : l.length ≤ 100) : decR (manyR (manyR (fun s => lowI s ((1 : Nat) : Int) 255))) [] (codeN l) = (l, 0) := by
  have hc := codeN_length l h hl
  refine dec_good _ _ _ _ ?_ (by omega)
  have hw := low_leB (l.length : Int) 2 4096 (.inr (.inr (.inr (.inl ⟨rfl, rfl⟩)))) ⟨by omega, by omega⟩ (.inr ⟨by omega, by omega⟩) (flatN l)
  rw [manyR]
  unfold codeN
  rw [show lowI (leB (l.length : Int) 2 ++ flatN l, false) 2 4096 = _ from hw]
  dsimp only
  have hm := manyIn_rows l [] [] h
  rw [List.append_nil] at hm
  rw [Int.toNat_natCast, hm, List.nil_append]
/-- Behind the count stands the first row's code. -/
theorem fstR_rows (x : List Int) (l : List (List Int)) (h : ∀ y ∈ x :: l, okRow y) (hl : (x :: l).length ≤ 100) : fstR (manyR (fun s => lowI s ((1 : Nat) : Int) 255)) [] ((codeN (x :: l)).drop 2) = (x, 2 + (x.length : Int), 0) := by
  have hd : (codeN (x :: l)).drop 2 = rowN x ++ flatN l := by
    unfold codeN
    rw [List.drop_left' (leB_length _ 2)]
    rfl
  have hx := (h x (by simp)).1
  rw [hd, fst_good _ _ _ x (flatN l) (manyR_row x (flatN l) (h x (by simp))) (by rw [List.length_append, rowN_length]; omega), List.length_append, rowN_length]
  congr 2
  omega
theorem codeN_ok (l : List (List Int)) : okB (codeN l) := by
  intro y hy
  unfold codeN at hy
  rcases List.mem_append.mp hy with h1 | h1
  · exact leB_ok _ _ y h1
  · unfold flatN rowN flat1 at h1
    obtain ⟨row, _, h2⟩ := List.mem_flatMap.mp h1
    rcases List.mem_append.mp h2 with h3 | h3
    · exact leB_ok _ _ y h3
    · obtain ⟨z, _, h4⟩ := List.mem_flatMap.mp h3
      exact leB_ok _ _ y h4
end Go.Proofs.Ytdlkkjfbbeffbaa.P
