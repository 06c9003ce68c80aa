import Derived.Test.YtpfbfnbffglbkaaFlowE
/- Pairs laid in a row of one's own: what lies in memory; no statement of the seat. -/
set_option linter.unusedVariables false
set_option linter.unusedSimpArgs false
namespace Go.Proofs.Ytpfbfnbffglbkaa.P
open Go.RowKit Go.Proofs.YtpfbfnbffglbkaaW.PrintWords Go.Proofs.YtpfbfnbffglbkaaW.PrintLast Go.Proofs.YtpfbfnbffglbkaaW.PrintMore
def cellsP : List (Int × Int) → List Value
  | [] => []
  | p :: l => .int .i64 p.1 :: .int .i64 p.2 :: cellsP l
theorem cellsP_app : ∀ (l m : List (Int × Int)), cellsP (l ++ m) = cellsP l ++ cellsP m
  | [], m => rfl
  | p :: l, m => by rw [List.cons_append, cellsP, cellsP_app l m]; rfl
theorem cellsP_len : ∀ (l : List (Int × Int)), (cellsP l).length = l.length * 2
  | [] => rfl
  | p :: l => by rw [cellsP, List.length_cons, List.length_cons, cellsP_len l, List.length_cons]; omega
theorem cellsP_get : ∀ (l : List (Int × Int)) (k : Nat) (p : Int × Int), l[k]? = some p → (cellsP l)[k * 2]? = some (.int .i64 p.1) ∧ (cellsP l)[k * 2 + 1]? = some (.int .i64 p.2)
  | [], k, p, h => by simp at h
  | q :: l, 0, p, h => by
    simp only [List.getElem?_cons_zero, Option.some.injEq] at h
    subst h
    exact ⟨rfl, rfl⟩
  | q :: l, k + 1, p, h => by
    have := cellsP_get l k p (by simpa using h)
    rw [cellsP, show (k + 1) * 2 = k * 2 + 2 by omega]
    exact this
/-- The boxes and the row. -/
structure FB (w W : World) (B6 n c0 : Nat) (A0 : Option Addr) (stop : Int) (v6 : Value) (l : List (Int × Int)) : Prop where
  b3 : W.heap[w.heap.size]? = some (.cells #[.int .i64 stop] 3 (0, 0))
  b4 : W.heap[w.heap.size + 1]? = some (.cells #[.bool false] 4 (0, 0))
  bs : W.heap[w.heap.size + 2]? = some (.cells #[.slice A0 n c0] 25 (0, 0))
  b6 : W.heap[B6]? = some (.cells #[v6] 45 (0, 0))
  o6 : W.ownsRow (B6 + 1) 46 2 v6 l.length (cellsP l)
  lo : w.heap.size + 2 < B6
  hb : Below w.heap.size w W
section
variable {w W W1 : World} {B6 n c0 : Nat} {A0 : Option Addr} {stop : Int} {v6 : Value} {l : List (Int × Int)}
theorem FB.keepC (h : FB w W B6 n c0 A0 stop v6 l) (hk : KC W W1) (hb : Below w.heap.size w W1) : FB w W1 B6 n c0 A0 stop v6 l :=
  ⟨hk _ _ _ _ h.b3, hk _ _ _ _ h.b4, hk _ _ _ _ h.bs, hk _ _ _ _ h.b6, own_keepC h.o6 hk, h.lo, hb⟩
theorem FB.below (h : FB w W B6 n c0 A0 stop v6 l) (hb : Below W.heap.size W W1) : FB w W1 B6 n c0 A0 stop v6 l :=
  ⟨blk_below h.b3 hb, blk_below h.b4 hb, blk_below h.bs hb, blk_below h.b6 hb, pw_own_below h.o6 hb, h.lo, h.hb.trans (hb.mono h.hb.size)⟩
/-- One pair more. -/
theorem FB.push (h : FB w W B6 n c0 A0 stop v6 l) (p : Int × Int) (v1 : Value) (ho : W1.ownsRow (B6 + 1) 46 2 v1 (l.length + 1) (cellsP l ++ [.int .i64 p.1, .int .i64 p.2])) (hb : Below (B6 + 1) W W1) : FB w (W1.setCell ⟨B6, 0, none⟩ v1) B6 n c0 A0 stop v1 (l ++ [p]) := by
  have lo := h.lo
  have k : ∀ b o', b < B6 + 1 → b ≠ B6 → W.heap[b]? = some o' → (W1.setCell ⟨B6, 0, none⟩ v1).heap[b]? = some o' := fun b o' hb1 hne hbo =>
    (Below.heap_setCell W1 ⟨B6, 0, none⟩ v1 b hne).trans ((hb.block b hb1).trans hbo)
  refine ⟨k _ _ (by omega) (by omega) h.b3, k _ _ (by omega) (by omega) h.b4, k _ _ (by omega) (by omega) h.bs, ?_, ?_, lo, Below.setCell (p := ⟨B6, 0, none⟩) (h.hb.trans (hb.mono (by omega))) (by show w.heap.size ≤ B6; omega) _⟩
  · have h3 : W1.heap[B6]? = some (.cells #[v6] 45 (0, 0)) := (hb.block _ (by omega)).trans h.b6
    have := blk_set h3 0 v1
    simpa using this
  · have e : cellsP (l ++ [p]) = cellsP l ++ [.int .i64 p.1, .int .i64 p.2] := cellsP_app l [p]
    rw [e, List.length_append, List.length_singleton]
    exact own_setCell ho (p := ⟨B6, 0, none⟩) (fun e => by have := own_base ho B6 e.symm; omega) _
/-- Another box is written. -/
theorem FB.other (h : FB w W B6 n c0 A0 stop v6 l) (B : Nat) (v : Value) (hB : B6 < B) (hne : some B ≠ v6.ownBlock) : FB w (W.setCell ⟨B, 0, none⟩ v) B6 n c0 A0 stop v6 l := by
  have lo := h.lo
  exact ⟨blk_far h.b3 (p := ⟨B, 0, none⟩) (by show w.heap.size ≠ B; omega) _, blk_far h.b4 (p := ⟨B, 0, none⟩) (by show w.heap.size + 1 ≠ B; omega) _, blk_far h.bs (p := ⟨B, 0, none⟩) (by show w.heap.size + 2 ≠ B; omega) _,
    blk_far h.b6 (p := ⟨B, 0, none⟩) (by show B6 ≠ B; omega) _, own_setCell h.o6 (p := ⟨B, 0, none⟩) hne _, lo, Below.setCell (p := ⟨B, 0, none⟩) h.hb (by show w.heap.size ≤ B; omega) _⟩
theorem FB.at_ {g c m : Nat} (h : FB w W B6 n c0 A0 stop (.slice (some ⟨g, 0, none⟩) m c) l) (k : Nat) (p : Int × Int) (hk : l[k]? = some p) : W.cell? ⟨g, k * 2, none⟩ = some (.int .i64 p.1) ∧ W.cell? ⟨g, k * 2 + 1, none⟩ = some (.int .i64 p.2) := by
  obtain ⟨h1, h2⟩ := cellsP_get l k p hk
  have e1 := h.o6.cells (g := g) rfl (k * 2) _ h1
  have e2 := h.o6.cells (g := g) rfl (k * 2 + 1) _ h2
  rw [add_plain] at e1 e2
  exact ⟨e1, e2⟩
end
/-- What the first rounds have done, and the second ones. -/
def I1 (w : World) (B6 B10 n c0 : Nat) (A0 : Option Addr) (stop : Int) (v6 : Value) (xs : List (Int × Int)) (pre : List { x : Int × Int // x ∈ xs }) (W : World) : Prop :=
  FB w W B6 n c0 A0 stop v6 xs ∧ W.heap[B10]? = some (.cells #[.int .i64 (pre.length : Int)] 3 (0, 0)) ∧ pre.map (·.1) <+: xs
def I2 (w : World) (B6 B10 B13 n c0 : Nat) (A0 : Option Addr) (stop : Int) (v6 : Value) (xs : List (Int × Int)) (pre : List { x : Int × Int // x ∈ xs }) (W : World) : Prop :=
  FB w W B6 n c0 A0 stop v6 xs ∧ W.heap[B10]? = some (.cells #[.int .i64 (xs.length : Int)] 3 (0, 0)) ∧ W.heap[B13]? = some (.cells #[.int .i64 (pre.length : Int)] 3 (0, 0))
theorem I1.kept (w : World) (B6 B10 n c0 : Nat) (A0 : Option Addr) (stop : Int) (v6 : Value) (xs : List (Int × Int)) {B : Nat} (hB : w.heap.size ≤ B) : OwnFrom B (I1 w B6 B10 n c0 A0 stop v6 xs) := by
  rintro pre W W' row ⟨h, hb, hp⟩ hg hr
  have hk : KC W W' := KC.of_grown hg (fun r e => (hr r e).2)
  exact ⟨h.keepC hk (h.hb.grown hg h.hb.size (fun k e => Nat.le_trans hB (hr k e).1)), hk _ _ _ _ hb, hp⟩
theorem I2.kept (w : World) (B6 B10 B13 n c0 : Nat) (A0 : Option Addr) (stop : Int) (v6 : Value) (xs : List (Int × Int)) {B : Nat} (hB : w.heap.size ≤ B) : OwnFrom B (I2 w B6 B10 B13 n c0 A0 stop v6 xs) := by
  rintro pre W W' row ⟨h, hb, hp⟩ hg hr
  have hk : KC W W' := KC.of_grown hg (fun r e => (hr r e).2)
  exact ⟨h.keepC hk (h.hb.grown hg h.hb.size (fun k e => Nat.le_trans hB (hr k e).1)), hk _ _ _ _ hb, hk _ _ _ _ hp⟩
def X1 (xs : List (Int × Int)) (c : Code) (pre : List { x : Int × Int // x ∈ xs }) (W : World) : Prop := ¬ (pre.map (·.1) <+: xs)
/-- A round that breaks off. -/
def X2 (w : World) (B6 B10 B13 n c0 : Nat) (A0 : Option Addr) (stop : Int) (v6 : Value) (xs : List (Int × Int)) (c : Code) (pre : List { x : Int × Int // x ∈ xs }) (W : World) : Prop :=
  I2 w B6 B10 B13 n c0 A0 stop v6 xs pre W ∧ (pre.length : Int) = stop ∧ c = .exit 6
theorem X2.kept (w : World) (B6 B10 B13 n c0 : Nat) (A0 : Option Addr) (stop : Int) (v6 : Value) (xs : List (Int × Int)) {B : Nat} (hB : w.heap.size ≤ B) (c : Code) : OwnFrom B (X2 w B6 B10 B13 n c0 A0 stop v6 xs c) := by
  rintro pre W W' row ⟨h, h1, h2⟩ hg hr
  exact ⟨I2.kept w B6 B10 B13 n c0 A0 stop v6 xs hB pre W W' row h hg hr, h1, h2⟩
end Go.Proofs.Ytpfbfnbffglbkaa.P
