/- Blocks gone through, the deepest left first: plain; and what lies in memory meanwhile; no statement of the seat. -/
import Derived.Test.YtpfbfnbffglbkaaWKept
import Derived.Test.YtpfbfnbffglbkaaPF40
set_option linter.unusedVariables false
set_option linter.unusedSimpArgs false
namespace Go.Proofs.Ytpfbfnbffglbkaa.P
open Go.RowKit Go.Proofs.YtpfbfnbffglbkaaW.PrintWords Go.Proofs.YtpfbfnbffglbkaaW.PrintLast Go.Proofs.YtpfbfnbffglbkaaW.PrintMore
/-- Whether there is such a block. -/
def isN (n : Nat) (t : Int) : Bool := decide (0 ≤ t) && decide (t < (n : Int))
/-- From a block on: what is seen, and what is left, the deepest first. -/
def vis (nx : Nat → List Int) (n : Nat) : Nat → Nat → List Bool × List Int → List Bool × List Int
  | 0, _, st => st
  | f + 1, i, st =>
    (((nx i).foldl (fun st t => if (isN n t && !(st.1.getD t.toNat false)) = true then vis nx n f t.toNat st else st) (st.1.set i true, st.2)).1,
     ((nx i).foldl (fun st t => if (isN n t && !(st.1.getD t.toNat false)) = true then vis nx n f t.toNat st else st) (st.1.set i true, st.2)).2 ++ [(i : Int)])
def goV (nx : Nat → List Int) (n f : Nat) (st : List Bool × List Int) (t : Int) : List Bool × List Int := if (isN n t && !(st.1.getD t.toNat false)) = true then vis nx n f t.toNat st else st
theorem vis_succ (nx : Nat → List Int) (n f i : Nat) (st : List Bool × List Int) : vis nx n (f + 1) i st = (((nx i).foldl (goV nx n f) (st.1.set i true, st.2)).1, ((nx i).foldl (goV nx n f) (st.1.set i true, st.2)).2 ++ [(i : Int)]) := rfl
def unseen (l : List Bool) : Nat := l.count false
theorem unseen_set (l : List Bool) (i : Nat) (h : l[i]? = some false) : unseen (l.set i true) + 1 = unseen l := by
  unfold unseen
  induction l generalizing i with
  | nil => simp at h
  | cons a l ih =>
    cases i with
    | zero =>
      simp at h
      subst h
      simp
    | succ i =>
      have h' : l[i]? = some false := by simpa using h
      have := ih i h'
      rw [List.set_cons_succ, List.count_cons, List.count_cons]
      omega
/-- What going through blocks keeps. -/
structure VOK (n : Nat) (st r : List Bool × List Int) : Prop where
  len : r.1.length = n
  sum : r.2.length + unseen r.1 = st.2.length + unseen st.1
  mono : ∀ j : Nat, st.1[j]? = some true → r.1[j]? = some true
  less : unseen r.1 ≤ unseen st.1
theorem VOK.refl {n : Nat} {st : List Bool × List Int} (h : st.1.length = n) : VOK n st st := ⟨h, rfl, fun _ h => h, Nat.le_refl _⟩
theorem VOK.trans {n : Nat} {a b c : List Bool × List Int} (h : VOK n a b) (k : VOK n b c) : VOK n a c := ⟨k.len, k.sum.trans h.sum, fun j hj => k.mono j (h.mono j hj), Nat.le_trans k.less h.less⟩
theorem isN_nat {n : Nat} {t : Int} (h : isN n t = true) : ∃ j : Nat, t = (j : Int) ∧ j < n := by
  unfold isN at h
  rw [Bool.and_eq_true, decide_eq_true_eq, decide_eq_true_eq] at h
  exact ⟨t.toNat, by omega, by omega⟩
theorem getD_false {l : List Bool} {i : Nat} (hi : i < l.length) (h : l.getD i false = false) : l[i]? = some false := by
  rw [List.getD_eq_getElem?_getD, List.getElem?_eq_getElem hi] at h
  rw [List.getElem?_eq_getElem hi]
  exact congrArg some h
theorem vis_ok (nx : Nat → List Int) (n : Nat) : ∀ f i (st : List Bool × List Int), st.1.length = n → i < n → st.1[i]? = some false → unseen st.1 ≤ f → VOK n st (vis nx n f i st)
  | 0, i, st, hl, hi, hf, hu => by
    have := unseen_set st.1 i hf
    omega
  | f + 1, i, st, hl, hi, hf, hu => by
    have hs := unseen_set st.1 i hf
    have hgo : ∀ (l : List Int) (a : List Bool × List Int), a.1.length = n → unseen a.1 ≤ f → VOK n a (l.foldl (goV nx n f) a) := by
      intro l
      induction l with
      | nil => intro a ha _; exact VOK.refl ha
      | cons t l ih =>
        intro a ha hua
        have h1 : VOK n a (goV nx n f a t) := by
          unfold goV
          split
          · rename_i hc
            rw [Bool.and_eq_true] at hc
            obtain ⟨j, rfl, hj⟩ := isN_nat hc.1
            rw [Int.toNat_natCast] at hc ⊢
            exact vis_ok nx n f j a ha hj (getD_false (by omega) (by simpa using hc.2)) hua
          · exact VOK.refl ha
        rw [List.foldl_cons]
        exact h1.trans (ih _ h1.len (Nat.le_trans h1.less hua))
    have h0 := hgo (nx i) (st.1.set i true, st.2) (by simpa using hl) (show unseen (st.1.set i true) ≤ f by omega)
    rw [vis_succ]
    refine ⟨h0.len, ?_, fun j hj => h0.mono j ?_, ?_⟩
    · have := h0.sum
      dsimp only at this ⊢
      rw [List.length_append, List.length_singleton]
      omega
    · dsimp only
      by_cases he : i = j
      · subst he
        rw [List.getElem?_set_self (by omega)]
      · rw [List.getElem?_set_ne he]
        exact hj
    · have := h0.less
      dsimp only at this ⊢
      omega
theorem goV_ok (nx : Nat → List Int) (n f : Nat) (st : List Bool × List Int) (hl : st.1.length = n) (hu : unseen st.1 ≤ f) (t : Int) : VOK n st (goV nx n f st t) := by
  unfold goV
  split
  · rename_i hc
    rw [Bool.and_eq_true] at hc
    obtain ⟨j, rfl, hj⟩ := isN_nat hc.1
    rw [Int.toNat_natCast] at hc ⊢
    exact vis_ok nx n f j st hl hj (getD_false (by omega) (by simpa using hc.2)) hu
  · exact VOK.refl hl
/-- The blocks' own variables while they are gone through: the blocks, what is seen, what is left, the function itself. -/
structure OI (w W : World) (n : Nat) (Ab : Option Addr) (cb : Nat) (seen : List Bool) (left : List Int) : Prop where
  bb : W.heap[w.heap.size]? = some (.cells #[.slice Ab n cb] 25 (0, 0))
  sa : W.heap[w.heap.size + 1]? = some (.cells (bools seen).toArray 4 (0, 0))
  sb : W.heap[w.heap.size + 2]? = some (.cells #[.slice (some ⟨w.heap.size + 1, 0, none⟩) n n] 36 (0, 0))
  lb : ∃ v, W.heap[w.heap.size + 3]? = some (.cells #[v] 23 (0, 0)) ∧ W.ownsRow (w.heap.size + 5) 3 1 v left.length (nums .i64 left)
  vb : W.heap[w.heap.size + 4]? = some (.cells #[.func (.func 39) #[] #[.pointer (some ⟨w.heap.size + 2, 0, none⟩), .pointer (some ⟨w.heap.size, 0, none⟩), .pointer (some ⟨w.heap.size + 4, 0, none⟩), .pointer (some ⟨w.heap.size + 3, 0, none⟩)]] 62 (0, 0))
  sl : seen.length = n
  hb : Below w.heap.size w W
theorem OI.lt {w W : World} {n : Nat} {Ab : Option Addr} {cb : Nat} {seen : List Bool} {left : List Int} (h : OI w W n Ab cb seen left) : w.heap.size + 4 < W.heap.size := blk_lt h.vb
/-- One more is seen. -/
theorem OI.see {w W : World} {n : Nat} {Ab : Option Addr} {cb : Nat} {seen : List Bool} {left : List Int} (h : OI w W n Ab cb seen left) (i : Nat) : OI w (W.setCell ⟨w.heap.size + 1, i, none⟩ (.bool true)) n Ab cb (seen.set i true) left := by
  obtain ⟨v, hv, ho⟩ := h.lb
  refine ⟨blk_far h.bb (p := ⟨w.heap.size + 1, i, none⟩) (by show w.heap.size ≠ w.heap.size + 1; omega) _, ?_, blk_far h.sb (p := ⟨w.heap.size + 1, i, none⟩) (by show w.heap.size + 2 ≠ w.heap.size + 1; omega) _, ⟨v, blk_far hv (p := ⟨w.heap.size + 1, i, none⟩) (by show w.heap.size + 3 ≠ w.heap.size + 1; omega) _, ?_⟩, blk_far h.vb (p := ⟨w.heap.size + 1, i, none⟩) (by show w.heap.size + 4 ≠ w.heap.size + 1; omega) _, by rw [List.length_set]; exact h.sl, Below.setCell (p := ⟨w.heap.size + 1, i, none⟩) h.hb (by show w.heap.size ≤ w.heap.size + 1; omega) _⟩
  · have hs := blk_set h.sa i (.bool true)
    rw [List.setIfInBounds_toArray] at hs
    have e : (bools seen).set i (.bool true) = bools (seen.set i true) := by unfold bools; rw [List.map_set]
    rw [e] at hs
    exact hs
  · exact own_setCell ho (p := ⟨w.heap.size + 1, i, none⟩) (fun e => by have := own_base ho (w.heap.size + 1) e.symm; omega) _
/-- The row grew: a block of one's own, and the variable is set. -/
theorem OI.leave {w W w1 : World} {n : Nat} {Ab : Option Addr} {cb : Nat} {seen : List Bool} {left : List Int} (h : OI w W n Ab cb seen left) {v : Value} (hv : W.heap[w.heap.size + 3]? = some (.cells #[v] 23 (0, 0)))
    (v1 : Value) (i : Int) (hb : Below (w.heap.size + 5) W w1) (ho1 : w1.ownsRow (w.heap.size + 5) 3 1 v1 (left ++ [i]).length (nums .i64 (left ++ [i]))) :
    OI w (w1.setCell ⟨w.heap.size + 3, 0, none⟩ v1) n Ab cb seen (left ++ [i]) := by
  have hlt := h.lt
  have k : ∀ b o', b < w.heap.size + 5 → b ≠ w.heap.size + 3 → W.heap[b]? = some o' → (w1.setCell ⟨w.heap.size + 3, 0, none⟩ v1).heap[b]? = some o' := fun b o' hb1 hne hbo =>
    (Below.heap_setCell w1 ⟨w.heap.size + 3, 0, none⟩ v1 b hne).trans ((hb.block b hb1).trans hbo)
  refine ⟨k _ _ (by omega) (by omega) h.bb, k _ _ (by omega) (by omega) h.sa, k _ _ (by omega) (by omega) h.sb, ⟨v1, ?_, ?_⟩, k _ _ (by omega) (by omega) h.vb, h.sl, ?_⟩
  · have h3 : w1.heap[w.heap.size + 3]? = some (.cells #[v] 23 (0, 0)) := (hb.block _ (by omega)).trans hv
    have := blk_set h3 0 v1
    simpa using this
  · exact own_setCell ho1 (p := ⟨w.heap.size + 3, 0, none⟩) (fun e => by have := own_base ho1 (w.heap.size + 3) e.symm; omega) _
  · exact Below.setCell (p := ⟨w.heap.size + 3, 0, none⟩) (h.hb.trans (hb.mono (by omega))) (by show w.heap.size ≤ w.heap.size + 3; omega) _
theorem OI.below {w W w1 : World} {n : Nat} {Ab : Option Addr} {cb : Nat} {seen : List Bool} {left : List Int} (h : OI w W n Ab cb seen left) (hb : Below W.heap.size W w1) : OI w w1 n Ab cb seen left := by
  obtain ⟨v, hv, ho⟩ := h.lb
  exact ⟨blk_below h.bb hb, blk_below h.sa hb, blk_below h.sb hb, ⟨v, blk_below hv hb, pw_own_below ho hb⟩, blk_below h.vb hb, h.sl, h.hb.trans (hb.mono (by have := h.hb.size; omega))⟩
theorem OI.drewN {w W : World} {n : Nat} {Ab : Option Addr} {cb : Nat} {seen : List Bool} {left : List Int} (h : OI w W n Ab cb seen left) (m : Nat) : OI w (W.drewN m) n Ab cb seen left := h.below (pw_below_drewN (Below.refl _ W) m)
end Go.Proofs.Ytpfbfnbffglbkaa.P
