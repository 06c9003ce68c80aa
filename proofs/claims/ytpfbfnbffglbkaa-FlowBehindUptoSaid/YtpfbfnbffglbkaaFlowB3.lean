import Derived.Test.YtpfbfnbffglbkaaFlowB2
import Derived.ChangeKeysEq
/- Two pairs set side by side; no statement of the seat. -/
set_option linter.unusedVariables false
set_option linter.unusedSimpArgs false
namespace Go.Proofs.Ytpfbfnbffglbkaa.P
open Go.RowKit Go.Proofs.YtpfbfnbffglbkaaW.PrintWords Go.Proofs.YtpfbfnbffglbkaaW.PrintLast Go.Proofs.YtpfbfnbffglbkaaW.PrintMore
theorem eq46 (a b p q : Int) (W : World) : (Op.equalIn 10000 46 (.agg #[.int .i64 a, .int .i64 b]) (.agg #[.int .i64 p, .int .i64 q])).run Try.prog W = .ok (decide (a = p ∧ b = q)) W := by
  obtain ⟨i0, hi0, _, hs0, _⟩ := info_parts (show (Try.prog.info? 3).map (fun i => (i.zero, i.size, i.bytes)) = some (some (.int .i64 0), 1, 8) by kernel_rfl)
  have hc : Try.prog.cellsOf 3 = 1 := by kernel_rfl
  rw [run_equalIn_array W 9999 _ _ Try.underlying46 hi0, hc]
  have p0 : ∀ x y : Int, (part 3 #[.int .i64 x, .int .i64 y] 0).run Try.prog W = .ok (.int .i64 x) W := fun x y => by
    simp [part, isAgg, run_underlying Try.underlying3]
  have p1 : ∀ x y : Int, (part 3 #[.int .i64 x, .int .i64 y] 1).run Try.prog W = .ok (.int .i64 y) W := fun x y => by
    simp [part, isAgg, run_underlying Try.underlying3]
  have hr : List.range 2 = [0, 1] := rfl
  rw [hr]
  simp only [Op.eqItems, Sem.run_bind, p0, p1, Result.andThen_ok, Nat.zero_mul, Nat.one_mul, run_equalIn_int W 9998 3 .i64 .i64 _ _ Try.underlying3]
  by_cases h1 : a = p <;> by_cases h2 : b = q <;> simp [h1, h2, p1, run_equalIn_int W 9998 3 .i64 .i64 _ _ Try.underlying3]
theorem next_pre0 {α : Type} (xs ys : List α) (y : α) (hp : ys <+: xs) (h : xs[ys.length]? = some y) : ys ++ [y] <+: xs := by
  obtain ⟨r, hr⟩ := hp
  rw [← hr, List.getElem?_append_right (Nat.le_refl _), Nat.sub_self] at h
  cases r with
  | nil => simp at h
  | cons z r =>
    simp only [List.getElem?_cons_zero, Option.some.injEq] at h
    subst h
    exact ⟨r, by rw [← hr]; simp⟩
theorem next_ne0 {α : Type} (xs ys : List α) (y z : α) (h : xs[ys.length]? = some z) (hne : z ≠ y) : ¬ (ys ++ [y] <+: xs) := by
  rintro ⟨r, hr⟩
  rw [← hr, List.append_assoc, List.getElem?_append_right (Nat.le_refl _), Nat.sub_self] at h
  simp only [List.cons_append, List.getElem?_cons_zero, Option.some.injEq] at h
  exact hne h.symm
theorem next_pre {α : Type} {xs : List α} (pre : List { x : α // x ∈ xs }) (k : Nat) (hk : pre.length = k) (y : α) (hy : y ∈ xs) (hp : pre.map (fun q => q.1) <+: xs) (h : xs[k]? = some y) : (pre ++ [(⟨y, hy⟩ : { x : α // x ∈ xs })]).map (fun q => q.1) <+: xs := by
  rw [List.map_append]
  exact next_pre0 xs _ y hp (by rw [List.length_map, hk]; exact h)
theorem next_ne {α : Type} {xs : List α} (pre : List { x : α // x ∈ xs }) (k : Nat) (hk : pre.length = k) (y z : α) (hy : y ∈ xs) (h : xs[k]? = some z) (hne : z ≠ y) : ¬ ((pre ++ [(⟨y, hy⟩ : { x : α // x ∈ xs })]).map (fun q => q.1) <+: xs) := by
  rw [List.map_append]
  exact next_ne0 xs _ y z (by rw [List.length_map, hk]; exact h) hne
/-- What the second rounds have done, with the first loop's own record of deferred calls. -/
def I3 (w : World) (B6 B10 B13 D n c0 : Nat) (A0 : Option Addr) (stop : Int) (v6 : Value) (xs : List (Int × Int)) (pre : List { x : Int × Int // x ∈ xs }) (W : World) : Prop :=
  I2 w B6 B10 B13 n c0 A0 stop v6 xs pre W ∧ W.heap[D]? = some (.deferred (some []))
theorem I3.kept (w : World) (B6 B10 B13 D n c0 : Nat) (A0 : Option Addr) (stop : Int) (v6 : Value) (xs : List (Int × Int)) {B : Nat} (hB : w.heap.size ≤ B) (hD : D < B) : OwnFrom B (I3 w B6 B10 B13 D n c0 A0 stop v6 xs) := by
  rintro pre W W' row ⟨h, hd⟩ hg hr
  refine ⟨I2.kept w B6 B10 B13 n c0 A0 stop v6 xs hB pre W W' row h hg hr, ?_⟩
  exact (hg.block D (Array.getElem?_eq_some_iff.1 hd).1 (fun e => by have := (hr _ e.symm).1; omega)).trans hd
def X3 (w : World) (B6 B10 B13 D n c0 : Nat) (A0 : Option Addr) (stop : Int) (v6 : Value) (xs : List (Int × Int)) (c : Code) (pre : List { x : Int × Int // x ∈ xs }) (W : World) : Prop :=
  I3 w B6 B10 B13 D n c0 A0 stop v6 xs pre W ∧ (pre.length : Int) = stop ∧ c = .exit 6
theorem X3.kept (w : World) (B6 B10 B13 D n c0 : Nat) (A0 : Option Addr) (stop : Int) (v6 : Value) (xs : List (Int × Int)) {B : Nat} (hB : w.heap.size ≤ B) (hD : D < B) (c : Code) : OwnFrom B (X3 w B6 B10 B13 D n c0 A0 stop v6 xs c) := by
  rintro pre W W' row ⟨h, h1, h2⟩ hg hr
  exact ⟨I3.kept w B6 B10 B13 D n c0 A0 stop v6 xs hB hD pre W W' row h hg hr, h1, h2⟩
/-- One round of the second loop. -/
theorem I3.next {w W : World} {B6 B10 B13 D n c0 : Nat} {A0 : Option Addr} {stop : Int} {v6 : Value} {xs : List (Int × Int)} {pre : List { x : Int × Int // x ∈ xs }} (h : I3 w B6 B10 B13 D n c0 A0 stop v6 xs pre W) (x : { x : Int × Int // x ∈ xs }) (k : Nat) (hk : pre.length = k) (h1 : B6 < B10) (h2 : B10 < B13) (h3 : some B13 ≠ v6.ownBlock) (hD : D < B13) :
    I3 w B6 B10 B13 D n c0 A0 stop v6 xs (pre ++ [x]) (W.setCell ⟨B13, 0, none⟩ (.int .i64 ((k : Int) + 1))) := by
  refine ⟨⟨h.1.1.other B13 _ (by omega) h3, blk_far h.1.2.1 (p := ⟨B13, 0, none⟩) (by show B10 ≠ B13; omega) _, ?_⟩, (Below.heap_setCell W ⟨B13, 0, none⟩ _ D (by show D ≠ B13; omega)).trans h.2⟩
  have := blk_set h.1.2.2 0 (.int .i64 ((k : Int) + 1))
  rw [List.length_append, List.length_singleton, hk, show (((k + 1 : Nat)) : Int) = (k : Int) + 1 by omega]
  simpa using this
/-- The end: the answer's box, and the two records. -/
theorem beh_end {w W : World} {B6 n c0 D1 D2 : Nat} {A0 : Option Addr} {stop : Int} {v6 : Value} {l : List (Int × Int)} (h : FB w W B6 n c0 A0 stop v6 l) (d1 : W.heap[D1]? = some (.deferred (some []))) (d2 : W.heap[D2]? = some (.deferred (some []))) (h1 : w.heap.size + 1 < D1) (h2 : D1 < D2) :
    (W.setCell ⟨w.heap.size + 1, 0, none⟩ (.bool true)).heap[D2]? = some (.deferred (some [])) ∧ ((W.setCell ⟨w.heap.size + 1, 0, none⟩ (.bool true)).putObj D2 (.deferred none)).heap[D1]? = some (.deferred (some [])) ∧
    (((W.setCell ⟨w.heap.size + 1, 0, none⟩ (.bool true)).putObj D2 (.deferred none)).putObj D1 (.deferred none)).cell? ⟨w.heap.size + 1, 0, none⟩ = some (.bool true) ∧
    Below w.heap.size w (((W.setCell ⟨w.heap.size + 1, 0, none⟩ (.bool true)).putObj D2 (.deferred none)).putObj D1 (.deferred none)) := by
  obtain ⟨W1, hW1⟩ : ∃ W1, W.setCell ⟨w.heap.size + 1, 0, none⟩ (.bool true) = W1 := ⟨_, rfl⟩
  have e1 : W1.heap[D1]? = some (.deferred (some [])) := by rw [← hW1]; exact (Below.heap_setCell W ⟨w.heap.size + 1, 0, none⟩ _ D1 (by show D1 ≠ w.heap.size + 1; omega)).trans d1
  have e2 : W1.heap[D2]? = some (.deferred (some [])) := by rw [← hW1]; exact (Below.heap_setCell W ⟨w.heap.size + 1, 0, none⟩ _ D2 (by show D2 ≠ w.heap.size + 1; omega)).trans d2
  have e3 : W1.heap[w.heap.size + 1]? = some (.cells #[.bool true] 4 (0, 0)) := by rw [← hW1]; simpa using blk_set h.b4 0 (.bool true)
  have e4 : Below w.heap.size w W1 := by rw [← hW1]; exact Below.setCell (p := ⟨w.heap.size + 1, 0, none⟩) h.hb (by show w.heap.size ≤ w.heap.size + 1; omega) _
  rw [hW1]
  have g1 := grownBy_putObj' W1 D2 (.deferred none)
  obtain ⟨W2, hW2⟩ : ∃ W2, W1.putObj D2 (.deferred none) = W2 := ⟨_, rfl⟩
  rw [hW2] at g1 ⊢
  have i1 : W2.heap[D1]? = some (.deferred (some [])) := (g1.block D1 (Array.getElem?_eq_some_iff.1 e1).1 (fun e => by injection e with e; omega)).trans e1
  have i3 := (g1.block (w.heap.size + 1) (blk_lt e3) (fun e => by injection e with e; omega)).trans e3
  have i4 := e4.grown g1 e4.size (fun k e => by injection e with e; omega)
  have g2 := grownBy_putObj' W2 D1 (.deferred none)
  exact ⟨e2, i1, blk_cell ((g2.block (w.heap.size + 1) (blk_lt i3) (fun e => by injection e with e; omega)).trans i3) 0, i4.grown g2 i4.size (fun k e => by injection e with e; omega)⟩
end Go.Proofs.Ytpfbfnbffglbkaa.P
