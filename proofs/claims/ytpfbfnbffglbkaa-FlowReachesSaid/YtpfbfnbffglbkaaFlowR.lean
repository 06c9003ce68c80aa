import Derived.Test.YtpfbfnbffglbkaaFlowE
import Derived.Test.YtpfbfnbffglbkaaFlowV
/- What is reached comes behind something that is: what lies in memory meanwhile; no statement of the seat. -/
set_option linter.unusedVariables false
set_option linter.unusedSimpArgs false
namespace Go.Proofs.Ytpfbfnbffglbkaa.P
open Go.RowKit Go.Proofs.YtpfbfnbffglbkaaW.PrintWords Go.Proofs.YtpfbfnbffglbkaaW.PrintLast Go.Proofs.YtpfbfnbffglbkaaW.PrintMore
def rbB (l : List Bool) (i : Nat) : Bool := l.getD i false
/-- Which come behind one that is reached. -/
def byStep (rr : List Bool) (by_ : List Bool) (p : Int × Int) : List Bool := by_.set p.2.toNat (rbB by_ p.2.toNat || rbB rr p.1.toNat)
def byOf (rr : List Bool) (n : Nat) (xs : List (Int × Int)) : List Bool := xs.foldl (byStep rr) (List.replicate n false)
theorem byStep_len (rr by_ : List Bool) (p : Int × Int) : (byStep rr by_ p).length = by_.length := by unfold byStep; exact List.length_set
theorem byOf_len (rr : List Bool) (n : Nat) (xs : List (Int × Int)) : (byOf rr n xs).length = n := by
  unfold byOf
  have : ∀ (xs : List (Int × Int)) (l : List Bool), (xs.foldl (byStep rr) l).length = l.length := by
    intro xs
    induction xs with
    | nil => intro l; rfl
    | cons p xs ih => intro l; rw [List.foldl_cons, ih, byStep_len]
  rw [this, List.length_replicate]
theorem byOf_true (rr : List Bool) (n t : Nat) (ht : t < n) : ∀ (xs : List (Int × Int)) (l : List Bool), l.length = n → (∀ p ∈ xs, ∃ j : Nat, p.2 = (j : Int) ∧ j < n) → (rbB l t = true ∨ ∃ p ∈ xs, p.2 = (t : Int) ∧ rbB rr p.1.toNat = true) → rbB (xs.foldl (byStep rr) l) t = true
  | [], l, hl, hx, h => by
    rcases h with h | ⟨p, hp, _⟩
    · exact h
    · simp at hp
  | p :: xs, l, hl, hx, h => by
    obtain ⟨j, hj, hjn⟩ := hx p List.mem_cons_self
    refine byOf_true rr n t ht xs _ (by rw [byStep_len]; exact hl) (fun q hq => hx q (List.mem_cons_of_mem _ hq)) ?_
    have hs : rbB (byStep rr l p) t = if t = j then (rbB l t || rbB rr p.1.toNat) else rbB l t := by
      unfold byStep
      rw [hj, Int.toNat_natCast]
      unfold rbB
      rw [List.getD_eq_getElem?_getD]
      by_cases e : t = j
      · subst e
        rw [List.getElem?_set_self (by omega), if_pos rfl]
        rfl
      · rw [List.getElem?_set_ne (fun h => e h.symm), if_neg e, ← List.getD_eq_getElem?_getD]
    rw [hs]
    rcases h with h | ⟨q, hq, h1, h2⟩
    · rw [h]
      left
      split <;> rfl
    · rcases List.mem_cons.1 hq with e | hq
      · subst e
        left
        rw [if_pos (by omega), h2, Bool.or_true]
      · exact Or.inr ⟨q, hq, h1, h2⟩
theorem pw_setCell_far (W : World) (b c i j : Nat) (v : Value) (h : c ≠ b) : (W.setCell ⟨b, i, none⟩ v).cell? ⟨c, j, none⟩ = W.cell? ⟨c, j, none⟩ := by
  have e := Below.heap_setCell W ⟨b, i, none⟩ v c h
  unfold World.cell?
  rw [e]
/-- The rows and their boxes. -/
structure RB (w W : World) (B2 B3 B5 g5 n c3 : Nat) (A3 : Option Addr) (cur : Array Value) (by_ : List Bool) : Prop where
  c2 : W.heap[B2]? = some (.cells #[.bool false] 4 (0, 0))
  c3 : W.heap[B3]? = some (.cells #[.slice A3 n c3] 36 (0, 0))
  c5 : W.heap[B5]? = some (.cells #[.slice (some ⟨g5, 0, none⟩) n n] 36 (0, 0))
  r3 : ∀ ad, A3 = some ad → W.heap[ad.block]? = some (.cells cur 4 (0, 0))
  a5 : W.heap[g5]? = some (.cells (bools by_).toArray 4 (0, 0))
  hb : Below w.heap.size w W
section
variable {w W W1 : World} {B2 B3 B5 g5 n c3 : Nat} {A3 : Option Addr} {cur : Array Value} {by_ : List Bool}
theorem RB.keepC (h : RB w W B2 B3 B5 g5 n c3 A3 cur by_) (hk : KC W W1) (hb : Below w.heap.size w W1) : RB w W1 B2 B3 B5 g5 n c3 A3 cur by_ :=
  ⟨hk _ _ _ _ h.c2, hk _ _ _ _ h.c3, hk _ _ _ _ h.c5, fun ad e => hk _ _ _ _ (h.r3 ad e), hk _ _ _ _ h.a5, hb⟩
theorem RB.below (h : RB w W B2 B3 B5 g5 n c3 A3 cur by_) (hb : Below W.heap.size W W1) : RB w W1 B2 B3 B5 g5 n c3 A3 cur by_ :=
  ⟨blk_below h.c2 hb, blk_below h.c3 hb, blk_below h.c5 hb, fun ad e => blk_below (h.r3 ad e) hb, blk_below h.a5 hb, h.hb.trans (hb.mono h.hb.size)⟩
theorem RB.put (h : RB w W B2 B3 B5 g5 n c3 A3 cur by_) (h2 : B2 < g5) (h3 : B3 < g5) (h5 : g5 < B5) (hg : ∀ ad, A3 = some ad → ad.block < g5) (hw : w.heap.size ≤ g5) (j : Nat) (v : Bool) : RB w (W.setCell ⟨g5, j, none⟩ (.bool v)) B2 B3 B5 g5 n c3 A3 cur (by_.set j v) := by
  refine ⟨blk_far h.c2 (p := ⟨g5, j, none⟩) (by show B2 ≠ g5; omega) _, blk_far h.c3 (p := ⟨g5, j, none⟩) (by show B3 ≠ g5; omega) _, blk_far h.c5 (p := ⟨g5, j, none⟩) (by show B5 ≠ g5; omega) _, fun ad e => blk_far (h.r3 ad e) (p := ⟨g5, j, none⟩) (by have := hg ad e; show ad.block ≠ g5; omega) _, ?_, Below.setCell (p := ⟨g5, j, none⟩) h.hb hw _⟩
  have hs := blk_set h.a5 j (.bool v)
  rw [List.setIfInBounds_toArray] at hs
  have e : (bools by_).set j (.bool v) = bools (by_.set j v) := by unfold bools; rw [List.map_set]
  rw [e] at hs
  exact hs
end
/-- What the rounds have done. -/
def RI (w : World) (B2 B3 B5 Bs g5 n c3 c0 : Nat) (A0 A3 : Option Addr) (cur : Array Value) (rr : List Bool) (xs : List (Int × Int)) (pre : List { x : Int × Int // x ∈ xs }) (W : World) : Prop :=
  RB w W B2 B3 B5 g5 n c3 A3 cur (byOf rr n (pre.map (·.1))) ∧ Boxed W Bs 25 (.slice A0 n c0)
theorem RI.kept (w : World) (B2 B3 B5 Bs g5 n c3 c0 : Nat) (A0 A3 : Option Addr) (cur : Array Value) (rr : List Bool) (xs : List (Int × Int)) {B : Nat} (hB : w.heap.size ≤ B) : OwnFrom B (RI w B2 B3 B5 Bs g5 n c3 c0 A0 A3 cur rr xs) := by
  rintro pre W W' row ⟨h, hb⟩ hg hr
  have hk : KC W W' := KC.of_grown hg (fun r e => (hr r e).2)
  exact ⟨h.keepC hk (h.hb.grown hg h.hb.size (fun k e => Nat.le_trans hB (hr k e).1)), hk _ _ _ _ hb⟩
end Go.Proofs.Ytpfbfnbffglbkaa.P
