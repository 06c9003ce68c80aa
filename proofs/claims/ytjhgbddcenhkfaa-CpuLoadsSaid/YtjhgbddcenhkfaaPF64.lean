/- Ytjhgbddcenhkfaa: what Go functions come to, and that they do: walks, printed by a program of this session or typed by hand; no statement of the seat stands here. -/
import Derived.Test.YtjhgbddcenhkfaaP0
import Derived.Test.YtjhgbddcenhkfaaPF69
import Derived.Test.YtjhgbddcenhkfaaPF68
import Derived.Test.YtjhgbddcenhkfaaPF70
namespace Go.Proofs.Ytjhgbddcenhkfaa.P
open Go.RowKit Go.Proofs.YtjhgbddcenhkfaaW.PrintWords Go.Proofs.YtjhgbddcenhkfaaW.PrintLast Go.Proofs.YtjhgbddcenhkfaaW.PrintMore
attribute [local go_sem] max2_int min2_int max_two min_two max_three min_three max_four min_four   -- for this text's walks alone
set_option linter.unusedVariables false
set_option linter.unusedSimpArgs false

/-- A state of type 104 at block g of W; what its slices lead to came in by w0. -/
def IsS104 (w0 W : World) (g : Nat) (f0 : Int) (f1 : Int) (f2 : Int) (f3 : Int) (f4 : Int) (f5 : Int) (f6 : Int) (f7 : Int) (f8 : Int) (f9 : Bool) : Prop := W.heap[g]? = some (.cells #[.int .u32 f0, .int .i64 f1, .int .i64 f2, .int .i64 f3, .int .i64 f4, .int .i64 f5, .int .i64 f6, .int .i64 f7, .int .i64 f8, .bool f9] 104 (0, 0)) ∧ w0.heap.size ≤ g
theorem IsS104.grown {w0 W : World} {g : Nat} {f0 : Int} {f1 : Int} {f2 : Int} {f3 : Int} {f4 : Int} {f5 : Int} {f6 : Int} {f7 : Int} {f8 : Int} {f9 : Bool} {W1 : World} {row : Option Nat} (h : IsS104 w0 W g f0 f1 f2 f3 f4 f5 f6 f7 f8 f9) (hw : W.grownBy W1 row) (hne : some g ≠ row) : IsS104 w0 W1 g f0 f1 f2 f3 f4 f5 f6 f7 f8 f9 := by
  obtain ⟨hb, hg⟩ := h
  exact ⟨blk_grown hb hw hne, hg⟩
theorem IsS104.own_neN {w0 W : World} {g : Nat} {f0 : Int} {f1 : Int} {f2 : Int} {f3 : Int} {f4 : Int} {f5 : Int} {f6 : Int} {f7 : Int} {f8 : Int} {f9 : Bool} {α : Type} {d : Kd α} {e : Nat} {base : Nat} {ok : Nat → Prop} {v : Value} {xs : List α} (h : IsS104 w0 W g f0 f1 f2 f3 f4 f5 f6 f7 f8 f9) (ho : Kd.N d e W base ok v xs) (ht : e ≠ 104) : some g ≠ v.ownBlock := by
  obtain ⟨hb, hg⟩ := h
  exact Kd.N_ne ho hb ht
theorem IsS104.fresh {w0 W : World} {g : Nat} {f0 : Int} {f1 : Int} {f2 : Int} {f3 : Int} {f4 : Int} {f5 : Int} {f6 : Int} {f7 : Int} {f8 : Int} {f9 : Bool} (h : IsS104 w0 W g f0 f1 f2 f3 f4 f5 f6 f7 f8 f9) : ∀ k, W.heap.size ≤ k → k ≠ g := by
  obtain ⟨hb, hg⟩ := h
  exact Kd.freshB hb
theorem IsS104.kept {w0 W : World} {g : Nat} {f0 : Int} {f1 : Int} {f2 : Int} {f3 : Int} {f4 : Int} {f5 : Int} {f6 : Int} {f7 : Int} {f8 : Int} {f9 : Bool} {W1 : World} {S : Nat → Prop} (h : IsS104 w0 W g f0 f1 f2 f3 f4 f5 f6 f7 f8 f9) (hk : Kept W W1 S) (hne : ¬ S g) : IsS104 w0 W1 g f0 f1 f2 f3 f4 f5 f6 f7 f8 f9 := by
  obtain ⟨hb, hg⟩ := h
  exact ⟨blk_kept hb hk hne, hg⟩
theorem IsS104.below {w0 W : World} {g : Nat} {f0 : Int} {f1 : Int} {f2 : Int} {f3 : Int} {f4 : Int} {f5 : Int} {f6 : Int} {f7 : Int} {f8 : Int} {f9 : Bool} {W1 : World} (h : IsS104 w0 W g f0 f1 f2 f3 f4 f5 f6 f7 f8 f9) (hw : Below W.heap.size W W1) : IsS104 w0 W1 g f0 f1 f2 f3 f4 f5 f6 f7 f8 f9 := h.grown (grown_of_below hw none) (by simp)
theorem IsS104.alloc {w0 W : World} {g : Nat} {f0 : Int} {f1 : Int} {f2 : Int} {f3 : Int} {f4 : Int} {f5 : Int} {f6 : Int} {f7 : Int} {f8 : Int} {f9 : Bool} (h : IsS104 w0 W g f0 f1 f2 f3 f4 f5 f6 f7 f8 f9) (o : Obj) : IsS104 w0 (W.alloc o) g f0 f1 f2 f3 f4 f5 f6 f7 f8 f9 := h.below (below_alloc (Below.refl _ _) o)
theorem IsS104.drewN {w0 W : World} {g : Nat} {f0 : Int} {f1 : Int} {f2 : Int} {f3 : Int} {f4 : Int} {f5 : Int} {f6 : Int} {f7 : Int} {f8 : Int} {f9 : Bool} (h : IsS104 w0 W g f0 f1 f2 f3 f4 f5 f6 f7 f8 f9) (m : Nat) : IsS104 w0 (W.drewN m) g f0 f1 f2 f3 f4 f5 f6 f7 f8 f9 := h
theorem IsS104.drew {w0 W : World} {g : Nat} {f0 : Int} {f1 : Int} {f2 : Int} {f3 : Int} {f4 : Int} {f5 : Int} {f6 : Int} {f7 : Int} {f8 : Int} {f9 : Bool} (h : IsS104 w0 W g f0 f1 f2 f3 f4 f5 f6 f7 f8 f9) : IsS104 w0 W.drew g f0 f1 f2 f3 f4 f5 f6 f7 f8 f9 := h
theorem IsS104.at_ {w0 W : World} {g : Nat} {f0 : Int} {f1 : Int} {f2 : Int} {f3 : Int} {f4 : Int} {f5 : Int} {f6 : Int} {f7 : Int} {f8 : Int} {f9 : Bool} {w' : World} {m : Nat} (hq : W.drewN m = w') (h : IsS104 w0 W g f0 f1 f2 f3 f4 f5 f6 f7 f8 f9) : IsS104 w0 w' g f0 f1 f2 f3 f4 f5 f6 f7 f8 f9 := by subst hq; exact IsS104.drewN h m
theorem IsS104.apart {w0 W : World} {g : Nat} {f0 : Int} {f1 : Int} {f2 : Int} {f3 : Int} {f4 : Int} {f5 : Int} {f6 : Int} {f7 : Int} {f8 : Int} {f9 : Bool} {α : Type} {d : Kd α} {e : Nat} {base : Nat} {ok : Nat → Prop} {v : Value} {xs : List α} (h : IsS104 w0 W g f0 f1 f2 f3 f4 f5 f6 f7 f8 f9) (ho : d.R e W base ok v xs) (ht : ∀ q, q ∈ e :: d.E → q ≠ 104) : d.R e W base (fun k => ok k ∧ k ≠ g) v xs := by
  obtain ⟨hb, hg⟩ := h
  exact Kd.R_types ho hb ht
theorem IsS104.own_ne {w0 W : World} {g : Nat} {f0 : Int} {f1 : Int} {f2 : Int} {f3 : Int} {f4 : Int} {f5 : Int} {f6 : Int} {f7 : Int} {f8 : Int} {f9 : Bool} {α : Type} {d : Kd α} {e : Nat} {base : Nat} {ok : Nat → Prop} {v : Value} {xs : List α} (h : IsS104 w0 W g f0 f1 f2 f3 f4 f5 f6 f7 f8 f9) (ho : d.R e W base ok v xs) (ht : e ≠ 104) : some g ≠ v.ownBlock := by
  obtain ⟨hb, hg⟩ := h
  exact Kd.R_ne ho hb ht
theorem IsS104.apartQ {w0 W : World} {g : Nat} {f0 : Int} {f1 : Int} {f2 : Int} {f3 : Int} {f4 : Int} {f5 : Int} {f6 : Int} {f7 : Int} {f8 : Int} {f9 : Bool} {α : Type} {d : Kd α} {e : Nat} {base : Nat} {ok : Nat → Prop} {v : Value} {xs : List α} (h : IsS104 w0 W g f0 f1 f2 f3 f4 f5 f6 f7 f8 f9) (ho : d.Q e W base ok v xs) (ht : ∀ q, q ∈ e :: d.E → q ≠ 104) : d.Q e W base (fun k => ok k ∧ k ≠ g) v xs := by
  obtain ⟨hb, hg⟩ := h
  exact Kd.Q_types ho hb ht
theorem IsS104.own_neQ {w0 W : World} {g : Nat} {f0 : Int} {f1 : Int} {f2 : Int} {f3 : Int} {f4 : Int} {f5 : Int} {f6 : Int} {f7 : Int} {f8 : Int} {f9 : Bool} {α : Type} {d : Kd α} {e : Nat} {base : Nat} {ok : Nat → Prop} {v : Value} {xs : List α} (h : IsS104 w0 W g f0 f1 f2 f3 f4 f5 f6 f7 f8 f9) (ho : d.Q e W base ok v xs) (ht : e ≠ 104) : some g ≠ v.ownBlock := by
  obtain ⟨hb, hg⟩ := h
  exact Kd.Q_ne ho hb ht
theorem IsS104.apartS {w0 W : World} {g : Nat} {f0 : Int} {f1 : Int} {f2 : Int} {f3 : Int} {f4 : Int} {f5 : Int} {f6 : Int} {f7 : Int} {f8 : Int} {f9 : Bool} {α : Type} {d : Kd α} {e : Nat} {base : Nat} {ok : Nat → Prop} {v : Value} {xs : List α} (h : IsS104 w0 W g f0 f1 f2 f3 f4 f5 f6 f7 f8 f9) (ho : d.S e W base ok v xs) (ht : ∀ q, q ∈ e :: d.E → q ≠ 104) : d.S e W base (fun k => ok k ∧ k ≠ g) v xs := by
  obtain ⟨hb, hg⟩ := h
  exact Kd.S_types ho hb ht
theorem IsS104.own_neS {w0 W : World} {g : Nat} {f0 : Int} {f1 : Int} {f2 : Int} {f3 : Int} {f4 : Int} {f5 : Int} {f6 : Int} {f7 : Int} {f8 : Int} {f9 : Bool} {α : Type} {d : Kd α} {e : Nat} {base : Nat} {ok : Nat → Prop} {v : Value} {xs : List α} (h : IsS104 w0 W g f0 f1 f2 f3 f4 f5 f6 f7 f8 f9) (ho : d.S e W base ok v xs) (ht : e ≠ 104) : some g ≠ v.ownBlock := by
  obtain ⟨hb, hg⟩ := h
  exact Kd.S_ne ho hb ht
theorem IsS104.lt {w0 W : World} {g : Nat} {f0 : Int} {f1 : Int} {f2 : Int} {f3 : Int} {f4 : Int} {f5 : Int} {f6 : Int} {f7 : Int} {f8 : Int} {f9 : Bool} (h : IsS104 w0 W g f0 f1 f2 f3 f4 f5 f6 f7 f8 f9) : g < W.heap.size := by
  obtain ⟨hb, hg⟩ := h
  exact blk_lt hb
theorem IsS104.ge {w0 W : World} {g : Nat} {f0 : Int} {f1 : Int} {f2 : Int} {f3 : Int} {f4 : Int} {f5 : Int} {f6 : Int} {f7 : Int} {f8 : Int} {f9 : Bool} (h : IsS104 w0 W g f0 f1 f2 f3 f4 f5 f6 f7 f8 f9) : w0.heap.size ≤ g := by
  obtain ⟨hb, hg⟩ := h
  exact hg
theorem IsS104.ne_blk {w0 W : World} {g : Nat} {f0 : Int} {f1 : Int} {f2 : Int} {f3 : Int} {f4 : Int} {f5 : Int} {f6 : Int} {f7 : Int} {f8 : Int} {f9 : Bool} {a : Nat} {cs : Array Value} {t : TypeId} {fr : Nat × Nat} (h : IsS104 w0 W g f0 f1 f2 f3 f4 f5 f6 f7 f8 f9) (hb2 : W.heap[a]? = some (.cells cs t fr)) (ht : t ≠ 104) : g ≠ a := by
  obtain ⟨hb, hg⟩ := h
  rintro rfl
  rw [hb] at hb2
  injection hb2 with hb2
  injection hb2 with _ ht2
  exact ht ht2.symm
theorem IsS104.far {w0 W : World} {g : Nat} {f0 : Int} {f1 : Int} {f2 : Int} {f3 : Int} {f4 : Int} {f5 : Int} {f6 : Int} {f7 : Int} {f8 : Int} {f9 : Bool} {p : Addr} (h : IsS104 w0 W g f0 f1 f2 f3 f4 f5 f6 f7 f8 f9) (hne : g ≠ p.block) (u : Value) : IsS104 w0 (W.setCell p u) g f0 f1 f2 f3 f4 f5 f6 f7 f8 f9 := by
  obtain ⟨hb, hg⟩ := h
  exact ⟨blk_far hb hne u, hg⟩
theorem cellS104_0 {W : World} {g : Nat} {f0 : Int} {f1 : Int} {f2 : Int} {f3 : Int} {f4 : Int} {f5 : Int} {f6 : Int} {f7 : Int} {f8 : Int} {f9 : Bool} (h : W.heap[g]? = some (.cells #[.int .u32 f0, .int .i64 f1, .int .i64 f2, .int .i64 f3, .int .i64 f4, .int .i64 f5, .int .i64 f6, .int .i64 f7, .int .i64 f8, .bool f9] 104 (0, 0))) : W.cell? ⟨g, 0, none⟩ = some (.int .u32 f0) := (blk_cell h 0).trans rfl
theorem IsS104.set_0 {w0 W : World} {g : Nat} {f0 : Int} {f1 : Int} {f2 : Int} {f3 : Int} {f4 : Int} {f5 : Int} {f6 : Int} {f7 : Int} {f8 : Int} {f9 : Bool} (h : IsS104 w0 W g f0 f1 f2 f3 f4 f5 f6 f7 f8 f9) (x : Int) : IsS104 w0 (W.setCell ⟨g, 0, none⟩ (.int .u32 x)) g x f1 f2 f3 f4 f5 f6 f7 f8 f9 := by
  obtain ⟨hb, hg⟩ := h
  exact ⟨by simpa using blk_set hb 0 (.int .u32 x), hg⟩
theorem cellS104_1 {W : World} {g : Nat} {f0 : Int} {f1 : Int} {f2 : Int} {f3 : Int} {f4 : Int} {f5 : Int} {f6 : Int} {f7 : Int} {f8 : Int} {f9 : Bool} (h : W.heap[g]? = some (.cells #[.int .u32 f0, .int .i64 f1, .int .i64 f2, .int .i64 f3, .int .i64 f4, .int .i64 f5, .int .i64 f6, .int .i64 f7, .int .i64 f8, .bool f9] 104 (0, 0))) : W.cell? ⟨g, 1, none⟩ = some (.int .i64 f1) := (blk_cell h 1).trans rfl
theorem IsS104.set_1 {w0 W : World} {g : Nat} {f0 : Int} {f1 : Int} {f2 : Int} {f3 : Int} {f4 : Int} {f5 : Int} {f6 : Int} {f7 : Int} {f8 : Int} {f9 : Bool} (h : IsS104 w0 W g f0 f1 f2 f3 f4 f5 f6 f7 f8 f9) (x : Int) : IsS104 w0 (W.setCell ⟨g, 1, none⟩ (.int .i64 x)) g f0 x f2 f3 f4 f5 f6 f7 f8 f9 := by
  obtain ⟨hb, hg⟩ := h
  exact ⟨by simpa using blk_set hb 1 (.int .i64 x), hg⟩
theorem cellS104_2 {W : World} {g : Nat} {f0 : Int} {f1 : Int} {f2 : Int} {f3 : Int} {f4 : Int} {f5 : Int} {f6 : Int} {f7 : Int} {f8 : Int} {f9 : Bool} (h : W.heap[g]? = some (.cells #[.int .u32 f0, .int .i64 f1, .int .i64 f2, .int .i64 f3, .int .i64 f4, .int .i64 f5, .int .i64 f6, .int .i64 f7, .int .i64 f8, .bool f9] 104 (0, 0))) : W.cell? ⟨g, 2, none⟩ = some (.int .i64 f2) := (blk_cell h 2).trans rfl
theorem IsS104.set_2 {w0 W : World} {g : Nat} {f0 : Int} {f1 : Int} {f2 : Int} {f3 : Int} {f4 : Int} {f5 : Int} {f6 : Int} {f7 : Int} {f8 : Int} {f9 : Bool} (h : IsS104 w0 W g f0 f1 f2 f3 f4 f5 f6 f7 f8 f9) (x : Int) : IsS104 w0 (W.setCell ⟨g, 2, none⟩ (.int .i64 x)) g f0 f1 x f3 f4 f5 f6 f7 f8 f9 := by
  obtain ⟨hb, hg⟩ := h
  exact ⟨by simpa using blk_set hb 2 (.int .i64 x), hg⟩
theorem cellS104_3 {W : World} {g : Nat} {f0 : Int} {f1 : Int} {f2 : Int} {f3 : Int} {f4 : Int} {f5 : Int} {f6 : Int} {f7 : Int} {f8 : Int} {f9 : Bool} (h : W.heap[g]? = some (.cells #[.int .u32 f0, .int .i64 f1, .int .i64 f2, .int .i64 f3, .int .i64 f4, .int .i64 f5, .int .i64 f6, .int .i64 f7, .int .i64 f8, .bool f9] 104 (0, 0))) : W.cell? ⟨g, 3, none⟩ = some (.int .i64 f3) := (blk_cell h 3).trans rfl
theorem IsS104.set_3 {w0 W : World} {g : Nat} {f0 : Int} {f1 : Int} {f2 : Int} {f3 : Int} {f4 : Int} {f5 : Int} {f6 : Int} {f7 : Int} {f8 : Int} {f9 : Bool} (h : IsS104 w0 W g f0 f1 f2 f3 f4 f5 f6 f7 f8 f9) (x : Int) : IsS104 w0 (W.setCell ⟨g, 3, none⟩ (.int .i64 x)) g f0 f1 f2 x f4 f5 f6 f7 f8 f9 := by
  obtain ⟨hb, hg⟩ := h
  exact ⟨by simpa using blk_set hb 3 (.int .i64 x), hg⟩
theorem cellS104_4 {W : World} {g : Nat} {f0 : Int} {f1 : Int} {f2 : Int} {f3 : Int} {f4 : Int} {f5 : Int} {f6 : Int} {f7 : Int} {f8 : Int} {f9 : Bool} (h : W.heap[g]? = some (.cells #[.int .u32 f0, .int .i64 f1, .int .i64 f2, .int .i64 f3, .int .i64 f4, .int .i64 f5, .int .i64 f6, .int .i64 f7, .int .i64 f8, .bool f9] 104 (0, 0))) : W.cell? ⟨g, 4, none⟩ = some (.int .i64 f4) := (blk_cell h 4).trans rfl
theorem IsS104.set_4 {w0 W : World} {g : Nat} {f0 : Int} {f1 : Int} {f2 : Int} {f3 : Int} {f4 : Int} {f5 : Int} {f6 : Int} {f7 : Int} {f8 : Int} {f9 : Bool} (h : IsS104 w0 W g f0 f1 f2 f3 f4 f5 f6 f7 f8 f9) (x : Int) : IsS104 w0 (W.setCell ⟨g, 4, none⟩ (.int .i64 x)) g f0 f1 f2 f3 x f5 f6 f7 f8 f9 := by
  obtain ⟨hb, hg⟩ := h
  exact ⟨by simpa using blk_set hb 4 (.int .i64 x), hg⟩
theorem cellS104_5 {W : World} {g : Nat} {f0 : Int} {f1 : Int} {f2 : Int} {f3 : Int} {f4 : Int} {f5 : Int} {f6 : Int} {f7 : Int} {f8 : Int} {f9 : Bool} (h : W.heap[g]? = some (.cells #[.int .u32 f0, .int .i64 f1, .int .i64 f2, .int .i64 f3, .int .i64 f4, .int .i64 f5, .int .i64 f6, .int .i64 f7, .int .i64 f8, .bool f9] 104 (0, 0))) : W.cell? ⟨g, 5, none⟩ = some (.int .i64 f5) := (blk_cell h 5).trans rfl
theorem IsS104.set_5 {w0 W : World} {g : Nat} {f0 : Int} {f1 : Int} {f2 : Int} {f3 : Int} {f4 : Int} {f5 : Int} {f6 : Int} {f7 : Int} {f8 : Int} {f9 : Bool} (h : IsS104 w0 W g f0 f1 f2 f3 f4 f5 f6 f7 f8 f9) (x : Int) : IsS104 w0 (W.setCell ⟨g, 5, none⟩ (.int .i64 x)) g f0 f1 f2 f3 f4 x f6 f7 f8 f9 := by
  obtain ⟨hb, hg⟩ := h
  exact ⟨by simpa using blk_set hb 5 (.int .i64 x), hg⟩
theorem cellS104_6 {W : World} {g : Nat} {f0 : Int} {f1 : Int} {f2 : Int} {f3 : Int} {f4 : Int} {f5 : Int} {f6 : Int} {f7 : Int} {f8 : Int} {f9 : Bool} (h : W.heap[g]? = some (.cells #[.int .u32 f0, .int .i64 f1, .int .i64 f2, .int .i64 f3, .int .i64 f4, .int .i64 f5, .int .i64 f6, .int .i64 f7, .int .i64 f8, .bool f9] 104 (0, 0))) : W.cell? ⟨g, 6, none⟩ = some (.int .i64 f6) := (blk_cell h 6).trans rfl
theorem IsS104.set_6 {w0 W : World} {g : Nat} {f0 : Int} {f1 : Int} {f2 : Int} {f3 : Int} {f4 : Int} {f5 : Int} {f6 : Int} {f7 : Int} {f8 : Int} {f9 : Bool} (h : IsS104 w0 W g f0 f1 f2 f3 f4 f5 f6 f7 f8 f9) (x : Int) : IsS104 w0 (W.setCell ⟨g, 6, none⟩ (.int .i64 x)) g f0 f1 f2 f3 f4 f5 x f7 f8 f9 := by
  obtain ⟨hb, hg⟩ := h
  exact ⟨by simpa using blk_set hb 6 (.int .i64 x), hg⟩
theorem cellS104_7 {W : World} {g : Nat} {f0 : Int} {f1 : Int} {f2 : Int} {f3 : Int} {f4 : Int} {f5 : Int} {f6 : Int} {f7 : Int} {f8 : Int} {f9 : Bool} (h : W.heap[g]? = some (.cells #[.int .u32 f0, .int .i64 f1, .int .i64 f2, .int .i64 f3, .int .i64 f4, .int .i64 f5, .int .i64 f6, .int .i64 f7, .int .i64 f8, .bool f9] 104 (0, 0))) : W.cell? ⟨g, 7, none⟩ = some (.int .i64 f7) := (blk_cell h 7).trans rfl
theorem IsS104.set_7 {w0 W : World} {g : Nat} {f0 : Int} {f1 : Int} {f2 : Int} {f3 : Int} {f4 : Int} {f5 : Int} {f6 : Int} {f7 : Int} {f8 : Int} {f9 : Bool} (h : IsS104 w0 W g f0 f1 f2 f3 f4 f5 f6 f7 f8 f9) (x : Int) : IsS104 w0 (W.setCell ⟨g, 7, none⟩ (.int .i64 x)) g f0 f1 f2 f3 f4 f5 f6 x f8 f9 := by
  obtain ⟨hb, hg⟩ := h
  exact ⟨by simpa using blk_set hb 7 (.int .i64 x), hg⟩
theorem cellS104_8 {W : World} {g : Nat} {f0 : Int} {f1 : Int} {f2 : Int} {f3 : Int} {f4 : Int} {f5 : Int} {f6 : Int} {f7 : Int} {f8 : Int} {f9 : Bool} (h : W.heap[g]? = some (.cells #[.int .u32 f0, .int .i64 f1, .int .i64 f2, .int .i64 f3, .int .i64 f4, .int .i64 f5, .int .i64 f6, .int .i64 f7, .int .i64 f8, .bool f9] 104 (0, 0))) : W.cell? ⟨g, 8, none⟩ = some (.int .i64 f8) := (blk_cell h 8).trans rfl
theorem IsS104.set_8 {w0 W : World} {g : Nat} {f0 : Int} {f1 : Int} {f2 : Int} {f3 : Int} {f4 : Int} {f5 : Int} {f6 : Int} {f7 : Int} {f8 : Int} {f9 : Bool} (h : IsS104 w0 W g f0 f1 f2 f3 f4 f5 f6 f7 f8 f9) (x : Int) : IsS104 w0 (W.setCell ⟨g, 8, none⟩ (.int .i64 x)) g f0 f1 f2 f3 f4 f5 f6 f7 x f9 := by
  obtain ⟨hb, hg⟩ := h
  exact ⟨by simpa using blk_set hb 8 (.int .i64 x), hg⟩
theorem cellS104_9 {W : World} {g : Nat} {f0 : Int} {f1 : Int} {f2 : Int} {f3 : Int} {f4 : Int} {f5 : Int} {f6 : Int} {f7 : Int} {f8 : Int} {f9 : Bool} (h : W.heap[g]? = some (.cells #[.int .u32 f0, .int .i64 f1, .int .i64 f2, .int .i64 f3, .int .i64 f4, .int .i64 f5, .int .i64 f6, .int .i64 f7, .int .i64 f8, .bool f9] 104 (0, 0))) : W.cell? ⟨g, 9, none⟩ = some (.bool f9) := (blk_cell h 9).trans rfl
theorem IsS104.set_9 {w0 W : World} {g : Nat} {f0 : Int} {f1 : Int} {f2 : Int} {f3 : Int} {f4 : Int} {f5 : Int} {f6 : Int} {f7 : Int} {f8 : Int} {f9 : Bool} (h : IsS104 w0 W g f0 f1 f2 f3 f4 f5 f6 f7 f8 f9) (x : Bool) : IsS104 w0 (W.setCell ⟨g, 9, none⟩ (.bool x)) g f0 f1 f2 f3 f4 f5 f6 f7 f8 x := by
  obtain ⟨hb, hg⟩ := h
  exact ⟨by simpa using blk_set hb 9 (.bool x), hg⟩
theorem IsS104.new (w0 W : World) (f0 : Int) (f1 : Int) (f2 : Int) (f3 : Int) (f4 : Int) (f5 : Int) (f6 : Int) (f7 : Int) (f8 : Int) (f9 : Bool) (hB : Below w0.heap.size w0 W) : IsS104 w0 (W.alloc (.cells #[.int .u32 f0, .int .i64 f1, .int .i64 f2, .int .i64 f3, .int .i64 f4, .int .i64 f5, .int .i64 f6, .int .i64 f7, .int .i64 f8, .bool f9] 104)) W.heap.size f0 f1 f2 f3 f4 f5 f6 f7 f8 f9 := ⟨by simpa using heap_alloc_new W _, hB.size⟩

/-! ### encode_maker_fields: function 64 -/
def Mk.fields (s : Mk) : Mk :=
  if s.op = 4 ∨ s.op = 5 ∨ s.op = 6 ∨ s.op = 19 ∨ s.op = 20 then (s.regs true true false).putImm 4095 10 else
  if s.op = 11 ∨ s.op = 12 then (s.regs true true true).putRa 31 10 else
  if s.op = 16 ∨ s.op = 17 ∨ s.op = 18 then ((s.regs true false false).putImm 65535 5).putShift 3 21 else
  if s.op = 21 ∨ s.op = 22 then (s.regs true true true).putCond 15 12 else
  if s.op = 23 ∨ s.op = 24 then s.put26 else
  if s.op = 25 then (s.putCond 15 0).put19 else
  if s.op = 26 ∨ s.op = 27 then (s.regs true false false).put19 else
  if s.op = 28 then s.regs false true false else
  if s.op = 29 ∨ s.op = 30 then s.putImm 65535 5 else
  if s.op = 31 then s else
  s.regs true true true
set_option maxHeartbeats 1000000 in
set_option maxRecDepth 100000 in
theorem mk_fields4 (g : Nat) (s : Mk) (w : World) (hk : s.op = 4) (hb : w.heap[g]? = some (.cells s.cells 104 (0, 0))) :
    Calls Try.prog 64 #[.pointer (some ⟨g, 0, none⟩)] w fun e w' => e = .returned (.tuple #[]) ∧ StB 104 w w' g ((s.regs true true false).putImm 4095 10).cells := by
  have H0 := Aside0.mk (StB.start hb)
  have h1 : w.cell? ⟨g, 1, none⟩ = some (.int .i64 4) := by have := blk_cell hb 1; rw [← hk]; exact this
  clear hk
  clear hb
  go_enter Try.func64, Try.ntmps64
  go_wp2_with fail
  refine (mk_regs g s true true false _ H0.out.1).mono ?_
  rintro e w1 ⟨rfl, h1⟩
  have H1 := Aside0.mk (H0.out.trans h1)
  clear h1 H0
  go_wp2_with fail
  refine (mk_putImm g (s.regs true true false) 4095 10 _ (by decide) H1.out.1).mono ?_
  rintro e w2 ⟨rfl, h1⟩
  have H2 := Aside0.mk (H1.out.trans h1)
  clear h1 H1
  go_wp2_with fail
  go_end0
  exact ⟨rfl, H2.out⟩
set_option maxHeartbeats 1000000 in
set_option maxRecDepth 100000 in
theorem mk_fields5 (g : Nat) (s : Mk) (w : World) (hk : s.op = 5) (hb : w.heap[g]? = some (.cells s.cells 104 (0, 0))) :
    Calls Try.prog 64 #[.pointer (some ⟨g, 0, none⟩)] w fun e w' => e = .returned (.tuple #[]) ∧ StB 104 w w' g ((s.regs true true false).putImm 4095 10).cells := by
  have H0 := Aside0.mk (StB.start hb)
  have h1 : w.cell? ⟨g, 1, none⟩ = some (.int .i64 5) := by have := blk_cell hb 1; rw [← hk]; exact this
  clear hk
  clear hb
  go_enter Try.func64, Try.ntmps64
  go_wp2_with fail
  refine (mk_regs g s true true false _ H0.out.1).mono ?_
  rintro e w1 ⟨rfl, h1⟩
  have H1 := Aside0.mk (H0.out.trans h1)
  clear h1 H0
  go_wp2_with fail
  refine (mk_putImm g (s.regs true true false) 4095 10 _ (by decide) H1.out.1).mono ?_
  rintro e w2 ⟨rfl, h1⟩
  have H2 := Aside0.mk (H1.out.trans h1)
  clear h1 H1
  go_wp2_with fail
  go_end0
  exact ⟨rfl, H2.out⟩
set_option maxHeartbeats 1000000 in
set_option maxRecDepth 100000 in
theorem mk_fields6 (g : Nat) (s : Mk) (w : World) (hk : s.op = 6) (hb : w.heap[g]? = some (.cells s.cells 104 (0, 0))) :
    Calls Try.prog 64 #[.pointer (some ⟨g, 0, none⟩)] w fun e w' => e = .returned (.tuple #[]) ∧ StB 104 w w' g ((s.regs true true false).putImm 4095 10).cells := by
  have H0 := Aside0.mk (StB.start hb)
  have h1 : w.cell? ⟨g, 1, none⟩ = some (.int .i64 6) := by have := blk_cell hb 1; rw [← hk]; exact this
  clear hk
  clear hb
  go_enter Try.func64, Try.ntmps64
  go_wp2_with fail
  refine (mk_regs g s true true false _ H0.out.1).mono ?_
  rintro e w1 ⟨rfl, h1⟩
  have H1 := Aside0.mk (H0.out.trans h1)
  clear h1 H0
  go_wp2_with fail
  refine (mk_putImm g (s.regs true true false) 4095 10 _ (by decide) H1.out.1).mono ?_
  rintro e w2 ⟨rfl, h1⟩
  have H2 := Aside0.mk (H1.out.trans h1)
  clear h1 H1
  go_wp2_with fail
  go_end0
  exact ⟨rfl, H2.out⟩
set_option maxHeartbeats 1000000 in
set_option maxRecDepth 100000 in
theorem mk_fields19 (g : Nat) (s : Mk) (w : World) (hk : s.op = 19) (hb : w.heap[g]? = some (.cells s.cells 104 (0, 0))) :
    Calls Try.prog 64 #[.pointer (some ⟨g, 0, none⟩)] w fun e w' => e = .returned (.tuple #[]) ∧ StB 104 w w' g ((s.regs true true false).putImm 4095 10).cells := by
  have H0 := Aside0.mk (StB.start hb)
  have h1 : w.cell? ⟨g, 1, none⟩ = some (.int .i64 19) := by have := blk_cell hb 1; rw [← hk]; exact this
  clear hk
  clear hb
  go_enter Try.func64, Try.ntmps64
  go_wp2_with fail
  refine (mk_regs g s true true false _ H0.out.1).mono ?_
  rintro e w1 ⟨rfl, h1⟩
  have H1 := Aside0.mk (H0.out.trans h1)
  clear h1 H0
  go_wp2_with fail
  refine (mk_putImm g (s.regs true true false) 4095 10 _ (by decide) H1.out.1).mono ?_
  rintro e w2 ⟨rfl, h1⟩
  have H2 := Aside0.mk (H1.out.trans h1)
  clear h1 H1
  go_wp2_with fail
  go_end0
  exact ⟨rfl, H2.out⟩
set_option maxHeartbeats 1000000 in
set_option maxRecDepth 100000 in
theorem mk_fields20 (g : Nat) (s : Mk) (w : World) (hk : s.op = 20) (hb : w.heap[g]? = some (.cells s.cells 104 (0, 0))) :
    Calls Try.prog 64 #[.pointer (some ⟨g, 0, none⟩)] w fun e w' => e = .returned (.tuple #[]) ∧ StB 104 w w' g ((s.regs true true false).putImm 4095 10).cells := by
  have H0 := Aside0.mk (StB.start hb)
  have h1 : w.cell? ⟨g, 1, none⟩ = some (.int .i64 20) := by have := blk_cell hb 1; rw [← hk]; exact this
  clear hk
  clear hb
  go_enter Try.func64, Try.ntmps64
  go_wp2_with fail
  refine (mk_regs g s true true false _ H0.out.1).mono ?_
  rintro e w1 ⟨rfl, h1⟩
  have H1 := Aside0.mk (H0.out.trans h1)
  clear h1 H0
  go_wp2_with fail
  refine (mk_putImm g (s.regs true true false) 4095 10 _ (by decide) H1.out.1).mono ?_
  rintro e w2 ⟨rfl, h1⟩
  have H2 := Aside0.mk (H1.out.trans h1)
  clear h1 H1
  go_wp2_with fail
  go_end0
  exact ⟨rfl, H2.out⟩
set_option maxHeartbeats 1000000 in
set_option maxRecDepth 100000 in
theorem mk_fields11 (g : Nat) (s : Mk) (w : World) (hk : s.op = 11) (hb : w.heap[g]? = some (.cells s.cells 104 (0, 0))) :
    Calls Try.prog 64 #[.pointer (some ⟨g, 0, none⟩)] w fun e w' => e = .returned (.tuple #[]) ∧ StB 104 w w' g ((s.regs true true true).putRa 31 10).cells := by
  have H0 := Aside0.mk (StB.start hb)
  have h1 : w.cell? ⟨g, 1, none⟩ = some (.int .i64 11) := by have := blk_cell hb 1; rw [← hk]; exact this
  clear hk
  clear hb
  go_enter Try.func64, Try.ntmps64
  go_wp2_with fail
  refine (mk_regs g s true true true _ H0.out.1).mono ?_
  rintro e w1 ⟨rfl, h1⟩
  have H1 := Aside0.mk (H0.out.trans h1)
  clear h1 H0
  go_wp2_with fail
  refine (mk_putRa g (s.regs true true true) 31 10 _ (by decide) H1.out.1).mono ?_
  rintro e w2 ⟨rfl, h1⟩
  have H2 := Aside0.mk (H1.out.trans h1)
  clear h1 H1
  go_wp2_with fail
  go_end0
  exact ⟨rfl, H2.out⟩
set_option maxHeartbeats 1000000 in
set_option maxRecDepth 100000 in
theorem mk_fields12 (g : Nat) (s : Mk) (w : World) (hk : s.op = 12) (hb : w.heap[g]? = some (.cells s.cells 104 (0, 0))) :
    Calls Try.prog 64 #[.pointer (some ⟨g, 0, none⟩)] w fun e w' => e = .returned (.tuple #[]) ∧ StB 104 w w' g ((s.regs true true true).putRa 31 10).cells := by
  have H0 := Aside0.mk (StB.start hb)
  have h1 : w.cell? ⟨g, 1, none⟩ = some (.int .i64 12) := by have := blk_cell hb 1; rw [← hk]; exact this
  clear hk
  clear hb
  go_enter Try.func64, Try.ntmps64
  go_wp2_with fail
  refine (mk_regs g s true true true _ H0.out.1).mono ?_
  rintro e w1 ⟨rfl, h1⟩
  have H1 := Aside0.mk (H0.out.trans h1)
  clear h1 H0
  go_wp2_with fail
  refine (mk_putRa g (s.regs true true true) 31 10 _ (by decide) H1.out.1).mono ?_
  rintro e w2 ⟨rfl, h1⟩
  have H2 := Aside0.mk (H1.out.trans h1)
  clear h1 H1
  go_wp2_with fail
  go_end0
  exact ⟨rfl, H2.out⟩
set_option maxHeartbeats 1000000 in
set_option maxRecDepth 100000 in
theorem mk_fields16 (g : Nat) (s : Mk) (w : World) (hk : s.op = 16) (hb : w.heap[g]? = some (.cells s.cells 104 (0, 0))) :
    Calls Try.prog 64 #[.pointer (some ⟨g, 0, none⟩)] w fun e w' => e = .returned (.tuple #[]) ∧ StB 104 w w' g (((s.regs true false false).putImm 65535 5).putShift 3 21).cells := by
  have H0 := Aside0.mk (StB.start hb)
  have h1 : w.cell? ⟨g, 1, none⟩ = some (.int .i64 16) := by have := blk_cell hb 1; rw [← hk]; exact this
  clear hk
  clear hb
  go_enter Try.func64, Try.ntmps64
  go_wp2_with fail
  refine (mk_regs g s true false false _ H0.out.1).mono ?_
  rintro e w1 ⟨rfl, h1⟩
  have H1 := Aside0.mk (H0.out.trans h1)
  clear h1 H0
  go_wp2_with fail
  refine (mk_putImm g (s.regs true false false) 65535 5 _ (by decide) H1.out.1).mono ?_
  rintro e w2 ⟨rfl, h1⟩
  have H2 := Aside0.mk (H1.out.trans h1)
  clear h1 H1
  go_wp2_with fail
  refine (mk_putShift g ((s.regs true false false).putImm 65535 5) 3 21 _ (by decide) H2.out.1).mono ?_
  rintro e w3 ⟨rfl, h1⟩
  have H3 := Aside0.mk (H2.out.trans h1)
  clear h1 H2
  go_wp2_with fail
  go_end0
  exact ⟨rfl, H3.out⟩
set_option maxHeartbeats 1000000 in
set_option maxRecDepth 100000 in
theorem mk_fields17 (g : Nat) (s : Mk) (w : World) (hk : s.op = 17) (hb : w.heap[g]? = some (.cells s.cells 104 (0, 0))) :
    Calls Try.prog 64 #[.pointer (some ⟨g, 0, none⟩)] w fun e w' => e = .returned (.tuple #[]) ∧ StB 104 w w' g (((s.regs true false false).putImm 65535 5).putShift 3 21).cells := by
  have H0 := Aside0.mk (StB.start hb)
  have h1 : w.cell? ⟨g, 1, none⟩ = some (.int .i64 17) := by have := blk_cell hb 1; rw [← hk]; exact this
  clear hk
  clear hb
  go_enter Try.func64, Try.ntmps64
  go_wp2_with fail
  refine (mk_regs g s true false false _ H0.out.1).mono ?_
  rintro e w1 ⟨rfl, h1⟩
  have H1 := Aside0.mk (H0.out.trans h1)
  clear h1 H0
  go_wp2_with fail
  refine (mk_putImm g (s.regs true false false) 65535 5 _ (by decide) H1.out.1).mono ?_
  rintro e w2 ⟨rfl, h1⟩
  have H2 := Aside0.mk (H1.out.trans h1)
  clear h1 H1
  go_wp2_with fail
  refine (mk_putShift g ((s.regs true false false).putImm 65535 5) 3 21 _ (by decide) H2.out.1).mono ?_
  rintro e w3 ⟨rfl, h1⟩
  have H3 := Aside0.mk (H2.out.trans h1)
  clear h1 H2
  go_wp2_with fail
  go_end0
  exact ⟨rfl, H3.out⟩
set_option maxHeartbeats 1000000 in
set_option maxRecDepth 100000 in
theorem mk_fields18 (g : Nat) (s : Mk) (w : World) (hk : s.op = 18) (hb : w.heap[g]? = some (.cells s.cells 104 (0, 0))) :
    Calls Try.prog 64 #[.pointer (some ⟨g, 0, none⟩)] w fun e w' => e = .returned (.tuple #[]) ∧ StB 104 w w' g (((s.regs true false false).putImm 65535 5).putShift 3 21).cells := by
  have H0 := Aside0.mk (StB.start hb)
  have h1 : w.cell? ⟨g, 1, none⟩ = some (.int .i64 18) := by have := blk_cell hb 1; rw [← hk]; exact this
  clear hk
  clear hb
  go_enter Try.func64, Try.ntmps64
  go_wp2_with fail
  refine (mk_regs g s true false false _ H0.out.1).mono ?_
  rintro e w1 ⟨rfl, h1⟩
  have H1 := Aside0.mk (H0.out.trans h1)
  clear h1 H0
  go_wp2_with fail
  refine (mk_putImm g (s.regs true false false) 65535 5 _ (by decide) H1.out.1).mono ?_
  rintro e w2 ⟨rfl, h1⟩
  have H2 := Aside0.mk (H1.out.trans h1)
  clear h1 H1
  go_wp2_with fail
  refine (mk_putShift g ((s.regs true false false).putImm 65535 5) 3 21 _ (by decide) H2.out.1).mono ?_
  rintro e w3 ⟨rfl, h1⟩
  have H3 := Aside0.mk (H2.out.trans h1)
  clear h1 H2
  go_wp2_with fail
  go_end0
  exact ⟨rfl, H3.out⟩
set_option maxHeartbeats 1000000 in
set_option maxRecDepth 100000 in
theorem mk_fields21 (g : Nat) (s : Mk) (w : World) (hk : s.op = 21) (hb : w.heap[g]? = some (.cells s.cells 104 (0, 0))) :
    Calls Try.prog 64 #[.pointer (some ⟨g, 0, none⟩)] w fun e w' => e = .returned (.tuple #[]) ∧ StB 104 w w' g ((s.regs true true true).putCond 15 12).cells := by
  have H0 := Aside0.mk (StB.start hb)
  have h1 : w.cell? ⟨g, 1, none⟩ = some (.int .i64 21) := by have := blk_cell hb 1; rw [← hk]; exact this
  clear hk
  clear hb
  go_enter Try.func64, Try.ntmps64
  go_wp2_with fail
  refine (mk_regs g s true true true _ H0.out.1).mono ?_
  rintro e w1 ⟨rfl, h1⟩
  have H1 := Aside0.mk (H0.out.trans h1)
  clear h1 H0
  go_wp2_with fail
  refine (mk_putCond g (s.regs true true true) 15 12 _ (by decide) H1.out.1).mono ?_
  rintro e w2 ⟨rfl, h1⟩
  have H2 := Aside0.mk (H1.out.trans h1)
  clear h1 H1
  go_wp2_with fail
  go_end0
  exact ⟨rfl, H2.out⟩
set_option maxHeartbeats 1000000 in
set_option maxRecDepth 100000 in
theorem mk_fields22 (g : Nat) (s : Mk) (w : World) (hk : s.op = 22) (hb : w.heap[g]? = some (.cells s.cells 104 (0, 0))) :
    Calls Try.prog 64 #[.pointer (some ⟨g, 0, none⟩)] w fun e w' => e = .returned (.tuple #[]) ∧ StB 104 w w' g ((s.regs true true true).putCond 15 12).cells := by
  have H0 := Aside0.mk (StB.start hb)
  have h1 : w.cell? ⟨g, 1, none⟩ = some (.int .i64 22) := by have := blk_cell hb 1; rw [← hk]; exact this
  clear hk
  clear hb
  go_enter Try.func64, Try.ntmps64
  go_wp2_with fail
  refine (mk_regs g s true true true _ H0.out.1).mono ?_
  rintro e w1 ⟨rfl, h1⟩
  have H1 := Aside0.mk (H0.out.trans h1)
  clear h1 H0
  go_wp2_with fail
  refine (mk_putCond g (s.regs true true true) 15 12 _ (by decide) H1.out.1).mono ?_
  rintro e w2 ⟨rfl, h1⟩
  have H2 := Aside0.mk (H1.out.trans h1)
  clear h1 H1
  go_wp2_with fail
  go_end0
  exact ⟨rfl, H2.out⟩
set_option maxHeartbeats 1000000 in
set_option maxRecDepth 100000 in
theorem mk_fields23 (g : Nat) (s : Mk) (w : World) (hk : s.op = 23) (hb : w.heap[g]? = some (.cells s.cells 104 (0, 0))) :
    Calls Try.prog 64 #[.pointer (some ⟨g, 0, none⟩)] w fun e w' => e = .returned (.tuple #[]) ∧ StB 104 w w' g (s.put26).cells := by
  have H0 := Aside0.mk (StB.start hb)
  have h1 : w.cell? ⟨g, 1, none⟩ = some (.int .i64 23) := by have := blk_cell hb 1; rw [← hk]; exact this
  clear hk
  clear hb
  go_enter Try.func64, Try.ntmps64
  go_wp2_with fail
  refine (mk_signed26 g s _ H0.out.1).mono ?_
  rintro e w1 ⟨rfl, h1⟩
  have H1 := Aside0.mk (H0.out.trans h1)
  clear h1 H0
  go_wp2_with fail
  go_end0
  exact ⟨rfl, H1.out⟩
set_option maxHeartbeats 1000000 in
set_option maxRecDepth 100000 in
theorem mk_fields24 (g : Nat) (s : Mk) (w : World) (hk : s.op = 24) (hb : w.heap[g]? = some (.cells s.cells 104 (0, 0))) :
    Calls Try.prog 64 #[.pointer (some ⟨g, 0, none⟩)] w fun e w' => e = .returned (.tuple #[]) ∧ StB 104 w w' g (s.put26).cells := by
  have H0 := Aside0.mk (StB.start hb)
  have h1 : w.cell? ⟨g, 1, none⟩ = some (.int .i64 24) := by have := blk_cell hb 1; rw [← hk]; exact this
  clear hk
  clear hb
  go_enter Try.func64, Try.ntmps64
  go_wp2_with fail
  refine (mk_signed26 g s _ H0.out.1).mono ?_
  rintro e w1 ⟨rfl, h1⟩
  have H1 := Aside0.mk (H0.out.trans h1)
  clear h1 H0
  go_wp2_with fail
  go_end0
  exact ⟨rfl, H1.out⟩
set_option maxHeartbeats 1000000 in
set_option maxRecDepth 100000 in
theorem mk_fields25 (g : Nat) (s : Mk) (w : World) (hk : s.op = 25) (hb : w.heap[g]? = some (.cells s.cells 104 (0, 0))) :
    Calls Try.prog 64 #[.pointer (some ⟨g, 0, none⟩)] w fun e w' => e = .returned (.tuple #[]) ∧ StB 104 w w' g ((s.putCond 15 0).put19).cells := by
  have H0 := Aside0.mk (StB.start hb)
  have h1 : w.cell? ⟨g, 1, none⟩ = some (.int .i64 25) := by have := blk_cell hb 1; rw [← hk]; exact this
  clear hk
  clear hb
  go_enter Try.func64, Try.ntmps64
  go_wp2_with fail
  refine (mk_putCond g s 15 0 _ (by decide) H0.out.1).mono ?_
  rintro e w1 ⟨rfl, h1⟩
  have H1 := Aside0.mk (H0.out.trans h1)
  clear h1 H0
  go_wp2_with fail
  refine (mk_signed19 g (s.putCond 15 0) _ H1.out.1).mono ?_
  rintro e w2 ⟨rfl, h1⟩
  have H2 := Aside0.mk (H1.out.trans h1)
  clear h1 H1
  go_wp2_with fail
  go_end0
  exact ⟨rfl, H2.out⟩
set_option maxHeartbeats 1000000 in
set_option maxRecDepth 100000 in
theorem mk_fields26 (g : Nat) (s : Mk) (w : World) (hk : s.op = 26) (hb : w.heap[g]? = some (.cells s.cells 104 (0, 0))) :
    Calls Try.prog 64 #[.pointer (some ⟨g, 0, none⟩)] w fun e w' => e = .returned (.tuple #[]) ∧ StB 104 w w' g ((s.regs true false false).put19).cells := by
  have H0 := Aside0.mk (StB.start hb)
  have h1 : w.cell? ⟨g, 1, none⟩ = some (.int .i64 26) := by have := blk_cell hb 1; rw [← hk]; exact this
  clear hk
  clear hb
  go_enter Try.func64, Try.ntmps64
  go_wp2_with fail
  refine (mk_regs g s true false false _ H0.out.1).mono ?_
  rintro e w1 ⟨rfl, h1⟩
  have H1 := Aside0.mk (H0.out.trans h1)
  clear h1 H0
  go_wp2_with fail
  refine (mk_signed19 g (s.regs true false false) _ H1.out.1).mono ?_
  rintro e w2 ⟨rfl, h1⟩
  have H2 := Aside0.mk (H1.out.trans h1)
  clear h1 H1
  go_wp2_with fail
  go_end0
  exact ⟨rfl, H2.out⟩
set_option maxHeartbeats 1000000 in
set_option maxRecDepth 100000 in
theorem mk_fields27 (g : Nat) (s : Mk) (w : World) (hk : s.op = 27) (hb : w.heap[g]? = some (.cells s.cells 104 (0, 0))) :
    Calls Try.prog 64 #[.pointer (some ⟨g, 0, none⟩)] w fun e w' => e = .returned (.tuple #[]) ∧ StB 104 w w' g ((s.regs true false false).put19).cells := by
  have H0 := Aside0.mk (StB.start hb)
  have h1 : w.cell? ⟨g, 1, none⟩ = some (.int .i64 27) := by have := blk_cell hb 1; rw [← hk]; exact this
  clear hk
  clear hb
  go_enter Try.func64, Try.ntmps64
  go_wp2_with fail
  refine (mk_regs g s true false false _ H0.out.1).mono ?_
  rintro e w1 ⟨rfl, h1⟩
  have H1 := Aside0.mk (H0.out.trans h1)
  clear h1 H0
  go_wp2_with fail
  refine (mk_signed19 g (s.regs true false false) _ H1.out.1).mono ?_
  rintro e w2 ⟨rfl, h1⟩
  have H2 := Aside0.mk (H1.out.trans h1)
  clear h1 H1
  go_wp2_with fail
  go_end0
  exact ⟨rfl, H2.out⟩
set_option maxHeartbeats 1000000 in
set_option maxRecDepth 100000 in
theorem mk_fields28 (g : Nat) (s : Mk) (w : World) (hk : s.op = 28) (hb : w.heap[g]? = some (.cells s.cells 104 (0, 0))) :
    Calls Try.prog 64 #[.pointer (some ⟨g, 0, none⟩)] w fun e w' => e = .returned (.tuple #[]) ∧ StB 104 w w' g (s.regs false true false).cells := by
  have H0 := Aside0.mk (StB.start hb)
  have h1 : w.cell? ⟨g, 1, none⟩ = some (.int .i64 28) := by have := blk_cell hb 1; rw [← hk]; exact this
  clear hk
  clear hb
  go_enter Try.func64, Try.ntmps64
  go_wp2_with fail
  refine (mk_regs g s false true false _ H0.out.1).mono ?_
  rintro e w1 ⟨rfl, h1⟩
  have H1 := Aside0.mk (H0.out.trans h1)
  clear h1 H0
  go_wp2_with fail
  go_end0
  exact ⟨rfl, H1.out⟩
set_option maxHeartbeats 1000000 in
set_option maxRecDepth 100000 in
theorem mk_fields29 (g : Nat) (s : Mk) (w : World) (hk : s.op = 29) (hb : w.heap[g]? = some (.cells s.cells 104 (0, 0))) :
    Calls Try.prog 64 #[.pointer (some ⟨g, 0, none⟩)] w fun e w' => e = .returned (.tuple #[]) ∧ StB 104 w w' g (s.putImm 65535 5).cells := by
  have H0 := Aside0.mk (StB.start hb)
  have h1 : w.cell? ⟨g, 1, none⟩ = some (.int .i64 29) := by have := blk_cell hb 1; rw [← hk]; exact this
  clear hk
  clear hb
  go_enter Try.func64, Try.ntmps64
  go_wp2_with fail
  refine (mk_putImm g s 65535 5 _ (by decide) H0.out.1).mono ?_
  rintro e w1 ⟨rfl, h1⟩
  have H1 := Aside0.mk (H0.out.trans h1)
  clear h1 H0
  go_wp2_with fail
  go_end0
  exact ⟨rfl, H1.out⟩
set_option maxHeartbeats 1000000 in
set_option maxRecDepth 100000 in
theorem mk_fields30 (g : Nat) (s : Mk) (w : World) (hk : s.op = 30) (hb : w.heap[g]? = some (.cells s.cells 104 (0, 0))) :
    Calls Try.prog 64 #[.pointer (some ⟨g, 0, none⟩)] w fun e w' => e = .returned (.tuple #[]) ∧ StB 104 w w' g (s.putImm 65535 5).cells := by
  have H0 := Aside0.mk (StB.start hb)
  have h1 : w.cell? ⟨g, 1, none⟩ = some (.int .i64 30) := by have := blk_cell hb 1; rw [← hk]; exact this
  clear hk
  clear hb
  go_enter Try.func64, Try.ntmps64
  go_wp2_with fail
  refine (mk_putImm g s 65535 5 _ (by decide) H0.out.1).mono ?_
  rintro e w1 ⟨rfl, h1⟩
  have H1 := Aside0.mk (H0.out.trans h1)
  clear h1 H0
  go_wp2_with fail
  go_end0
  exact ⟨rfl, H1.out⟩
set_option maxHeartbeats 1000000 in
set_option maxRecDepth 100000 in
theorem mk_fields31 (g : Nat) (s : Mk) (w : World) (hk : s.op = 31) (hb : w.heap[g]? = some (.cells s.cells 104 (0, 0))) :
    Calls Try.prog 64 #[.pointer (some ⟨g, 0, none⟩)] w fun e w' => e = .returned (.tuple #[]) ∧ StB 104 w w' g (s).cells := by
  have H0 := Aside0.mk (StB.start hb)
  have h1 : w.cell? ⟨g, 1, none⟩ = some (.int .i64 31) := by have := blk_cell hb 1; rw [← hk]; exact this
  clear hk
  clear hb
  go_enter Try.func64, Try.ntmps64
  go_wp2_with fail
  go_end0
  exact ⟨rfl, H0.out⟩
set_option maxHeartbeats 2000000 in
set_option maxRecDepth 100000 in
theorem mk_fieldsD (g : Nat) (s : Mk) (w : World) (n4 : ¬ s.op = 4) (n5 : ¬ s.op = 5) (n6 : ¬ s.op = 6) (n19 : ¬ s.op = 19) (n20 : ¬ s.op = 20) (n11 : ¬ s.op = 11) (n12 : ¬ s.op = 12) (n16 : ¬ s.op = 16) (n17 : ¬ s.op = 17) (n18 : ¬ s.op = 18) (n21 : ¬ s.op = 21) (n22 : ¬ s.op = 22) (n23 : ¬ s.op = 23) (n24 : ¬ s.op = 24) (n25 : ¬ s.op = 25) (n26 : ¬ s.op = 26) (n27 : ¬ s.op = 27) (n28 : ¬ s.op = 28) (n29 : ¬ s.op = 29) (n30 : ¬ s.op = 30) (n31 : ¬ s.op = 31) (hb : w.heap[g]? = some (.cells s.cells 104 (0, 0))) :
    Calls Try.prog 64 #[.pointer (some ⟨g, 0, none⟩)] w fun e w' => e = .returned (.tuple #[]) ∧ StB 104 w w' g (s.regs true true true).cells := by
  have H0 := Aside0.mk (StB.start hb)
  have h1 : w.cell? ⟨g, 1, none⟩ = some (.int .i64 s.op) := blk_cell hb 1
  have m4 : (s.op == 4) = false := beq_eq_false_iff_ne.mpr n4
  have m5 : (s.op == 5) = false := beq_eq_false_iff_ne.mpr n5
  have m6 : (s.op == 6) = false := beq_eq_false_iff_ne.mpr n6
  have m19 : (s.op == 19) = false := beq_eq_false_iff_ne.mpr n19
  have m20 : (s.op == 20) = false := beq_eq_false_iff_ne.mpr n20
  have m11 : (s.op == 11) = false := beq_eq_false_iff_ne.mpr n11
  have m12 : (s.op == 12) = false := beq_eq_false_iff_ne.mpr n12
  have m16 : (s.op == 16) = false := beq_eq_false_iff_ne.mpr n16
  have m17 : (s.op == 17) = false := beq_eq_false_iff_ne.mpr n17
  have m18 : (s.op == 18) = false := beq_eq_false_iff_ne.mpr n18
  have m21 : (s.op == 21) = false := beq_eq_false_iff_ne.mpr n21
  have m22 : (s.op == 22) = false := beq_eq_false_iff_ne.mpr n22
  have m23 : (s.op == 23) = false := beq_eq_false_iff_ne.mpr n23
  have m24 : (s.op == 24) = false := beq_eq_false_iff_ne.mpr n24
  have m25 : (s.op == 25) = false := beq_eq_false_iff_ne.mpr n25
  have m26 : (s.op == 26) = false := beq_eq_false_iff_ne.mpr n26
  have m27 : (s.op == 27) = false := beq_eq_false_iff_ne.mpr n27
  have m28 : (s.op == 28) = false := beq_eq_false_iff_ne.mpr n28
  have m29 : (s.op == 29) = false := beq_eq_false_iff_ne.mpr n29
  have m30 : (s.op == 30) = false := beq_eq_false_iff_ne.mpr n30
  have m31 : (s.op == 31) = false := beq_eq_false_iff_ne.mpr n31
  clear n4 n5 n6 n19 n20 n11 n12 n16 n17 n18 n21 n22 n23 n24 n25 n26 n27 n28 n29 n30 n31
  clear hb
  go_enter Try.func64, Try.ntmps64
  go_wp2_with fail
  refine (mk_regs g s true true true _ H0.out.1).mono ?_
  rintro e w1 ⟨rfl, h1⟩
  have H1 := Aside0.mk (H0.out.trans h1)
  clear h1 H0
  go_wp2_with fail
  go_end0
  exact ⟨rfl, H1.out⟩
theorem mk_fields (g : Nat) (s : Mk) (w : World) (hb : w.heap[g]? = some (.cells s.cells 104 (0, 0))) :
    Calls Try.prog 64 #[.pointer (some ⟨g, 0, none⟩)] w fun e w' => e = .returned (.tuple #[]) ∧ StB 104 w w' g (s.fields).cells := by
  unfold Mk.fields
  by_cases c4 : s.op = 4 ∨ s.op = 5 ∨ s.op = 6 ∨ s.op = 19 ∨ s.op = 20
  · rw [if_pos c4]
    rcases c4 with h | h | h | h | h
    · exact mk_fields4 g s w h hb
    · exact mk_fields5 g s w h hb
    · exact mk_fields6 g s w h hb
    · exact mk_fields19 g s w h hb
    · exact mk_fields20 g s w h hb
  rw [if_neg c4]
  by_cases c11 : s.op = 11 ∨ s.op = 12
  · rw [if_pos c11]
    rcases c11 with h | h
    · exact mk_fields11 g s w h hb
    · exact mk_fields12 g s w h hb
  rw [if_neg c11]
  by_cases c16 : s.op = 16 ∨ s.op = 17 ∨ s.op = 18
  · rw [if_pos c16]
    rcases c16 with h | h | h
    · exact mk_fields16 g s w h hb
    · exact mk_fields17 g s w h hb
    · exact mk_fields18 g s w h hb
  rw [if_neg c16]
  by_cases c21 : s.op = 21 ∨ s.op = 22
  · rw [if_pos c21]
    rcases c21 with h | h
    · exact mk_fields21 g s w h hb
    · exact mk_fields22 g s w h hb
  rw [if_neg c21]
  by_cases c23 : s.op = 23 ∨ s.op = 24
  · rw [if_pos c23]
    rcases c23 with h | h
    · exact mk_fields23 g s w h hb
    · exact mk_fields24 g s w h hb
  rw [if_neg c23]
  by_cases c25 : s.op = 25
  · rw [if_pos c25]
    exact mk_fields25 g s w c25 hb
  rw [if_neg c25]
  by_cases c26 : s.op = 26 ∨ s.op = 27
  · rw [if_pos c26]
    rcases c26 with h | h
    · exact mk_fields26 g s w h hb
    · exact mk_fields27 g s w h hb
  rw [if_neg c26]
  by_cases c28 : s.op = 28
  · rw [if_pos c28]
    exact mk_fields28 g s w c28 hb
  rw [if_neg c28]
  by_cases c29 : s.op = 29 ∨ s.op = 30
  · rw [if_pos c29]
    rcases c29 with h | h
    · exact mk_fields29 g s w h hb
    · exact mk_fields30 g s w h hb
  rw [if_neg c29]
  by_cases c31 : s.op = 31
  · rw [if_pos c31]
    exact mk_fields31 g s w c31 hb
  rw [if_neg c31]
  exact mk_fieldsD g s w (by omega) (by omega) (by omega) (by omega) (by omega) (by omega) (by omega) (by omega) (by omega) (by omega) (by omega) (by omega) (by omega) (by omega) (by omega) (by omega) (by omega) (by omega) (by omega) (by omega) (by omega) hb
def encode_maker_fields.f (s0_0 : Int) (s0_1 : Int) (s0_2 : Int) (s0_3 : Int) (s0_4 : Int) (s0_5 : Int) (s0_6 : Int) (s0_7 : Int) (s0_8 : Int) (s0_9 : Bool) : Option (Int × Int × Int × Int × Int × Int × Int × Int × Int × Bool) :=
  let s := Mk.fields ⟨s0_0, s0_1, s0_2, s0_3, s0_4, s0_5, s0_6, s0_7, s0_8, s0_9⟩
  some (s.W, s.op, s.rd, s.rn, s.rm, s.ra, s.imm, s.shift, s.cond, s.good)
theorem encode_maker_fields.calls (g : Nat) (s0_0 : Int) (s0_1 : Int) (s0_2 : Int) (s0_3 : Int) (s0_4 : Int) (s0_5 : Int) (s0_6 : Int) (s0_7 : Int) (s0_8 : Int) (s0_9 : Bool) (r1 : Int) (r2 : Int) (r3 : Int) (r4 : Int) (r5 : Int) (r6 : Int) (r7 : Int) (r8 : Int) (r9 : Int) (r10 : Bool) (w0 w : World) (hI : IsS104 w0 w g s0_0 s0_1 s0_2 s0_3 s0_4 s0_5 s0_6 s0_7 s0_8 s0_9) (hB : Below w0.heap.size w0 w) (h : encode_maker_fields.f s0_0 s0_1 s0_2 s0_3 s0_4 s0_5 s0_6 s0_7 s0_8 s0_9 = some (r1, r2, r3, r4, r5, r6, r7, r8, r9, r10)) :
    Calls Try.prog 64 #[.pointer (some ⟨g, 0, none⟩)] w fun e w' => e = .returned (.tuple #[]) ∧ IsS104 w0 w' g r1 r2 r3 r4 r5 r6 r7 r8 r9 r10 ∧ Below w0.heap.size w0 w' ∧ KeepBut w w' g none := by
  obtain ⟨hb, hg⟩ := hI
  refine (mk_fields g ⟨s0_0, s0_1, s0_2, s0_3, s0_4, s0_5, s0_6, s0_7, s0_8, s0_9⟩ w hb).mono ?_
  rintro e w' ⟨rfl, hs⟩
  simp only [encode_maker_fields.f, Option.some.injEq, Prod.mk.injEq] at h
  obtain ⟨rfl, rfl, rfl, rfl, rfl, rfl, rfl, rfl, rfl, rfl⟩ := h
  exact ⟨rfl, ⟨hs.1, hg⟩, hs.2.2 _ _ hg hB, hs.2.1⟩

end Go.Proofs.Ytjhgbddcenhkfaa.P
