/- What lies in memory while a code's instructions are gone over; plain facts of where they stand; no statement of the seat. -/
import Derived.Test.YtdcjbkhfopdgnaaInstrPl
set_option linter.unusedVariables false
set_option linter.unusedSimpArgs false
namespace Go.Proofs.Ytdcjbkhfopdgnaa.P
open Go.RowKit Go.Proofs.Ytdcjbkhfopdgnaa.Pl Go.Proofs.YtdcjbkhfopdgnaaW.PrintWords Go.Proofs.YtdcjbkhfopdgnaaW.PrintLast Go.Proofs.YtdcjbkhfopdgnaaW.PrintMore
/-- Where the k-th instruction stands. -/
def atK (l : List X) (k : Nat) : Nat := (cat (l.take k)).length
theorem atK_zero (l : List X) : atK l 0 = 0 := by unfold atK; rfl
theorem atK_all (l : List X) : atK l l.length = (cat l).length := by unfold atK; rw [List.take_length]
theorem atK_next (l : List X) (k : Nat) (x : X) (h : l[k]? = some x) : atK l (k + 1) = atK l k + (sz x.f0).toNat := by
  unfold atK
  rw [List.take_add_one, h, Option.toList_some, cat_append, List.length_append, cat_one, by1_len]
theorem atK_le (l : List X) (k : Nat) : atK l k ≤ (cat l).length := by
  have h : cat l = cat (l.take k) ++ cat (l.drop k) := by rw [← cat_append, List.take_append_drop]
  rw [h, List.length_append]
  unfold atK
  omega
theorem placed_get : ∀ (l : List X) (i k : Nat) (x : X), l[k]? = some x → (placed i l)[k]? = some (((i + atK l k : Nat) : Int), x)
  | [], i, k, x, h => by simp at h
  | y :: l, i, 0, x, h => by
    simp only [List.getElem?_cons_zero, Option.some.injEq] at h
    subst h
    rw [placed, List.getElem?_cons_zero, atK_zero]
    rfl
  | y :: l, i, k + 1, x, h => by
    rw [placed, List.getElem?_cons_succ, placed_get l (i + (sz y.f0).toNat) k x (by simpa using h)]
    have e : atK (y :: l) (k + 1) = (sz y.f0).toNat + atK l k := by
      unfold atK
      rw [List.take_succ_cons, cat_cons, List.length_append, by1_len]
    rw [e, Nat.add_assoc]
theorem placed_len (l : List X) (i : Nat) : (placed i l).length = l.length := by
  have := congrArg List.length (placed_snd l i)
  rw [List.length_map] at this
  exact this
/-- The boxes. -/
structure SB (w W : World) (Bs B7 n c0 m c1 : Nat) (A0 A1 : Option Addr) (a k : Int) : Prop where
  b1 : W.heap[w.heap.size]? = some (.cells #[.slice A0 n c0] 49 (0, 0))
  b2 : W.heap[w.heap.size + 1]? = some (.cells #[.bool false] 4 (0, 0))
  bs : W.heap[Bs]? = some (.cells #[.slice A1 m c1] 46 (0, 0))
  b7 : W.heap[B7]? = some (.cells #[.int .i64 a] 3 (0, 0))
  b8 : W.heap[B7 + 1]? = some (.cells #[.int .i64 k] 3 (0, 0))
  lo : w.heap.size + 1 < Bs
  hi : Bs < B7
  hb : Below w.heap.size w W
section
variable {w W W1 : World} {Bs B7 n c0 m c1 : Nat} {A0 A1 : Option Addr} {a k : Int}
theorem SB.keep (h : SB w W Bs B7 n c0 m c1 A0 A1 a k) {row : Option Nat} (hg : W.grownBy W1 row) (hr : ∀ r, row = some r → w.heap.size ≤ r ∧ ∃ o : Obj, W.heap[r]? = some o ∧ o.isCells = false) : SB w W1 Bs B7 n c0 m c1 A0 A1 a k :=
  ⟨cells_kept h.b1 hg (fun r e => (hr r e).2), cells_kept h.b2 hg (fun r e => (hr r e).2), cells_kept h.bs hg (fun r e => (hr r e).2), cells_kept h.b7 hg (fun r e => (hr r e).2), cells_kept h.b8 hg (fun r e => (hr r e).2), h.lo, h.hi, h.hb.grown hg h.hb.size (fun r e => (hr r e).1)⟩
theorem SB.below (h : SB w W Bs B7 n c0 m c1 A0 A1 a k) (hb : Below W.heap.size W W1) : SB w W1 Bs B7 n c0 m c1 A0 A1 a k := by
  have g : ∀ {b : Nat} {o : Obj}, W.heap[b]? = some o → W1.heap[b]? = some o := fun {b o} hbo => (hb.block b (Array.getElem?_eq_some_iff.1 hbo).1).trans hbo
  exact ⟨g h.b1, g h.b2, g h.bs, g h.b7, g h.b8, h.lo, h.hi, below_step h.hb hb⟩
/-- A round's two writings. -/
theorem SB.put (h : SB w W Bs B7 n c0 m c1 A0 A1 a k) (a' k' : Int) : SB w ((W.setCell ⟨B7, 0, none⟩ (.int .i64 a')).setCell ⟨B7 + 1, 0, none⟩ (.int .i64 k')) Bs B7 n c0 m c1 A0 A1 a' k' := by
  have lo := h.lo; have hi := h.hi
  have g : ∀ {b : Nat} {o : Obj}, b < B7 → W.heap[b]? = some o → ((W.setCell ⟨B7, 0, none⟩ (.int .i64 a')).setCell ⟨B7 + 1, 0, none⟩ (.int .i64 k')).heap[b]? = some o := fun {b o} hb hbo =>
    (Below.heap_setCell _ ⟨B7 + 1, 0, none⟩ _ b (by show b ≠ B7 + 1; omega)).trans ((Below.heap_setCell W ⟨B7, 0, none⟩ _ b (by show b ≠ B7; omega)).trans hbo)
  refine ⟨g (by omega) h.b1, g (by omega) h.b2, g (by omega) h.bs, ?_, ?_, lo, hi, Below.setCell (p := ⟨B7 + 1, 0, none⟩) (Below.setCell (p := ⟨B7, 0, none⟩) h.hb (by show w.heap.size ≤ B7; omega) _) (by show w.heap.size ≤ B7 + 1; omega) _⟩
  · refine (Below.heap_setCell _ ⟨B7 + 1, 0, none⟩ _ B7 (by show B7 ≠ B7 + 1; omega)).trans ?_
    have := blk_set h.b7 0 (.int .i64 a')
    simpa using this
  · have h2 : (W.setCell ⟨B7, 0, none⟩ (.int .i64 a')).heap[B7 + 1]? = some (.cells #[.int .i64 k] 3 (0, 0)) := (Below.heap_setCell W ⟨B7, 0, none⟩ _ (B7 + 1) (by show B7 + 1 ≠ B7; omega)).trans h.b8
    have := blk_set h2 0 (.int .i64 k')
    simpa using this
end
theorem next_pre0 {α : Type} (xs ys : List α) (y : α) (hp : ys <+: xs) (h : xs[ys.length]? = some y) : ys ++ [y] <+: xs := by
  obtain ⟨r, hr⟩ := hp
  rw [← hr, List.getElem?_append_right (Nat.le_refl _), Nat.sub_self] at h
  cases r with
  | nil => simp at h
  | cons z r =>
    simp only [List.getElem?_cons_zero, Option.some.injEq] at h
    subst h
    exact ⟨r, by rw [← hr]; simp⟩
theorem next_ne0 {α : Type} (xs ys : List α) (y z : α) (h : xs[ys.length]? = some z) (hne : z ≠ y) : ¬ (ys ++ [y] <+: xs) := by
  rintro ⟨r, hr⟩
  rw [← hr, List.append_assoc, List.getElem?_append_right (Nat.le_refl _), Nat.sub_self] at h
  simp only [List.cons_append, List.getElem?_cons_zero, Option.some.injEq] at h
  exact hne h.symm
theorem next_pre {α : Type} {xs : List α} (pre : List { x : α // x ∈ xs }) (k : Nat) (hk : pre.length = k) (y : α) (hy : y ∈ xs) (hp : pre.map (fun q => q.1) <+: xs) (h : xs[k]? = some y) : (pre ++ [(⟨y, hy⟩ : { x : α // x ∈ xs })]).map (fun q => q.1) <+: xs := by
  rw [List.map_append]
  exact next_pre0 xs _ y hp (by rw [List.length_map, hk]; exact h)
theorem next_ne {α : Type} {xs : List α} (pre : List { x : α // x ∈ xs }) (k : Nat) (hk : pre.length = k) (y z : α) (hy : y ∈ xs) (h : xs[k]? = some z) (hne : z ≠ y) : ¬ ((pre ++ [(⟨y, hy⟩ : { x : α // x ∈ xs })]).map (fun q => q.1) <+: xs) := by
  rw [List.map_append]
  exact next_ne0 xs _ y z (by rw [List.length_map, hk]; exact h) hne
/-- What the rounds have done. -/
def SI (w : World) (Bs B7 n c0 m c1 : Nat) (A0 A1 : Option Addr) (l : List X) (xs : List Ins) (pre : List { x : Ins // x ∈ xs }) (W : World) : Prop :=
  SB w W Bs B7 n c0 m c1 A0 A1 (atK l pre.length : Int) (pre.length : Int) ∧ pre.map (fun q => q.1) <+: xs
theorem SI.kept (w : World) (Bs B7 n c0 m c1 : Nat) (A0 A1 : Option Addr) (l : List X) (xs : List Ins) {B : Nat} (hB : w.heap.size ≤ B) : OwnFrom B (SI w Bs B7 n c0 m c1 A0 A1 l xs) := by
  rintro pre W W' row ⟨h, hp⟩ hg hr
  exact ⟨h.keep hg (fun r e => ⟨Nat.le_trans hB (hr r e).1, (hr r e).2⟩), hp⟩
def SX (xs : List Ins) (c : Code) (pre : List { x : Ins // x ∈ xs }) (W : World) : Prop := ¬ (pre.map (fun q => q.1) <+: xs)
end Go.Proofs.Ytdcjbkhfopdgnaa.P
