/- So many steps and then so many more; two processors beside each other: plain; no statement of the seat. -/
import Derived.Test.YtjhgbddcenhkfaaCpuI
set_option linter.unusedVariables false
set_option linter.unusedSimpArgs false
namespace Go.Proofs.Ytjhgbddcenhkfaa.P
open Go.RowKit Go.Proofs.YtjhgbddcenhkfaaW.PrintWords Go.Proofs.YtjhgbddcenhkfaaW.PrintLast
theorem runN_add : ∀ (m n k : Nat) (s : CS), runN (m + n) k s = if (runN m k s).1.1 = 0 then runN n (k + m) (runN m k s).2 else runN m k s
  | 0, n, k, s => by simp [runN]
  | m + 1, n, k, s => by
    rw [show m + 1 + n = (m + n) + 1 by omega, runN, runN]
    by_cases h : (stepC s).1.1 = 0
    · rw [if_pos h, if_pos h, runN_add m n (k + 1) (stepC s).2, show k + 1 + m = k + (m + 1) by omega]
    · rw [if_neg h, if_neg h, if_neg h]
theorem runN_shift : ∀ (n k j : Nat) (s : CS), runN n (k + j) s = (((runN n k s).1.1, (runN n k s).1.2.1, (runN n k s).1.2.2 + (j : Int)), (runN n k s).2)
  | 0, k, j, s => by simp only [runN]; rw [show ((k + j : Nat) : Int) = (k : Int) + (j : Int) by omega]
  | n + 1, k, j, s => by
    rw [runN, runN]
    by_cases h : (stepC s).1.1 = 0
    · rw [if_pos h, if_pos h, show k + j + 1 = (k + 1) + j by omega, runN_shift n (k + 1) j]
    · rw [if_neg h, if_neg h]
      simp only
      rw [show ((k + j : Nat) : Int) + (stepC s).1.2.2 = (k : Int) + (stepC s).1.2.2 + (j : Int) by omega]
theorem runN_steps : ∀ (n k : Nat) (s : CS), (runN n k s).1.1 = 0 → (runN n k s).1.2.2 = (k : Int) + (n : Int)
  | 0, k, s, _ => by simp [runN]
  | n + 1, k, s, h => by
    rw [runN] at h ⊢
    by_cases h1 : (stepC s).1.1 = 0
    · rw [if_pos h1] at h ⊢
      rw [runN_steps n (k + 1) _ h]
      omega
    · rw [if_neg h1] at h
      exact absurd h h1
theorem capN_nat (n : Nat) (h : n ≤ 16777216) : capN (n : Int) = n := by unfold capN; omega
/-- m steps that were not ended, then n more. -/
theorem parts_go (m n : Nat) (hm : m ≤ 100) (hn : n ≤ 100) (s : CS) (h : (runC (m : Int) s).1.1 = 0) :
    runC ((m : Int) + (n : Int)) s = (((runC (n : Int) (runC (m : Int) s).2).1.1, (runC (n : Int) (runC (m : Int) s).2).1.2.1, (runC (m : Int) s).1.2.2 + (runC (n : Int) (runC (m : Int) s).2).1.2.2), (runC (n : Int) (runC (m : Int) s).2).2) := by
  unfold runC at *
  rw [capN_nat m (by omega)] at h ⊢
  rw [capN_nat n (by omega), show ((m : Int) + (n : Int)) = ((m + n : Nat) : Int) by omega, capN_nat (m + n) (by omega), runN_add, if_pos h, runN_shift n 0 m, runN_steps m 0 s h]
  rw [show (((0 : Nat) : Int) + (m : Int)) + (runN n 0 (runN m 0 s).2).1.2.2 = (runN n 0 (runN m 0 s).2).1.2.2 + (m : Int) by omega]
theorem parts_end (m n : Nat) (hm : m ≤ 100) (hn : n ≤ 100) (s : CS) (h : ¬ (runC (m : Int) s).1.1 = 0) : runC ((m : Int) + (n : Int)) s = runC (m : Int) s := by
  unfold runC at *
  rw [capN_nat m (by omega)] at h ⊢
  rw [show ((m : Int) + (n : Int)) = ((m + n : Nat) : Int) by omega, capN_nat (m + n) (by omega), runN_add, if_neg h]
theorem COK.beside {w w1 : World} {T : TypeId} {B E p : Nat} {A : Option Addr} {c bm : Nat} {s : CS} {p2 b2 : Nat} (h : COK w T B E p A c bm s) (hk : Kept w w1 (CB p2 b2)) (hp : p2 < B ∨ E ≤ p2) (hb : b2 < B ∨ E ≤ b2) : COK w1 T B E p A c bm s :=
  h.kept hk (fun k hk => by rcases hk with rfl | rfl <;> assumption)
theorem SOK.setS {s : CS} (hs : SOK s) (i v : Int) : SOK (setS s i v) := by
  unfold P.setS
  split
  · exact ⟨hs.p0, hs.p1, hs.wl, hs.wok, hs.mok⟩
  · exact hs
theorem SOK.runN : ∀ (n k : Nat) {s : CS}, SOK s → SOK (runN n k s).2
  | 0, _, _, hs => hs
  | n + 1, k, s, hs => by
    rw [P.runN]
    split
    · exact SOK.runN n (k + 1) hs.step
    · exact hs.step
theorem SOK.runC {s : CS} (hs : SOK s) (n : Int) : SOK (runC n s).2 := SOK.runN _ _ hs
theorem runN_bound : ∀ (n k : Nat) (s : CS), (k : Int) ≤ (runN n k s).1.2.2 ∧ (runN n k s).1.2.2 ≤ (k : Int) + (n : Int)
  | 0, k, s => by simp [P.runN]
  | n + 1, k, s => by
    rw [P.runN]
    have h := stepC_steps s
    split
    · have := runN_bound n (k + 1) (stepC s).2
      omega
    · show (k : Int) ≤ (k : Int) + (stepC s).1.2.2 ∧ (k : Int) + (stepC s).1.2.2 ≤ (k : Int) + ((n + 1 : Nat) : Int)
      omega
theorem runC_bound (n : Nat) (hn : n ≤ 1000) (s : CS) : 0 ≤ (runC (n : Int) s).1.2.2 ∧ (runC (n : Int) s).1.2.2 ≤ (n : Int) := by
  unfold P.runC
  rw [capN_nat n (by omega)]
  have := runN_bound n 0 s
  omega
/-- Two processors, one made behind the other. -/
structure TwoC (w wr : World) (M E pa : Nat) (Aa : Option Addr) (ca ba pb : Nat) (Ab : Option Addr) (cb bb : Nat) (sa sb : CS) : Prop where
  a : COK wr 69 w.heap.size M pa Aa ca ba sa
  b : COK wr 69 M E pb Ab cb bb sb
  lo : Below w.heap.size w wr
  hE : E ≤ wr.heap.size
section
variable {w wr w1 : World} {M E pa : Nat} {Aa : Option Addr} {ca ba pb : Nat} {Ab : Option Addr} {cb bb : Nat} {sa sb s' : CS}
theorem TwoC.onA (h : TwoC w wr M E pa Aa ca ba pb Ab cb bb sa sb) (t : CTo wr 69 w.heap.size M pa Aa ca ba s' w1) : TwoC w w1 M E pa Aa ca ba pb Ab cb bb s' sb :=
  ⟨t.1, h.b.beside t.2.1 (.inl h.a.hp) (.inl h.a.hm), h.lo.trans t.2.2, Nat.le_trans h.hE t.2.1.1⟩
theorem TwoC.onB (h : TwoC w wr M E pa Aa ca ba pb Ab cb bb sa sb) (t : CTo wr 69 M E pb Ab cb bb s' w1) : TwoC w w1 M E pa Aa ca ba pb Ab cb bb sa s' :=
  ⟨h.a.beside t.2.1 (.inr h.b.lp) (.inr h.b.lm), t.1, h.lo.trans (t.2.2.mono (by have := h.a.lp; have := h.a.hp; omega)), Nat.le_trans h.hE t.2.1.1⟩
theorem TwoC.below (h : TwoC w wr M E pa Aa ca ba pb Ab cb bb sa sb) (hb : Below wr.heap.size wr w1) : TwoC w w1 M E pa Aa ca ba pb Ab cb bb sa sb :=
  ⟨h.a.below hb, h.b.below hb, below_step h.lo hb, Nat.le_trans h.hE hb.size⟩
theorem TwoC.hM (h : TwoC w wr M E pa Aa ca ba pb Ab cb bb sa sb) : M ≤ wr.heap.size := by have := h.b.lp; have := h.b.lt; omega
/-- A block behind both is kept. -/
theorem TwoC.box (h : TwoC w wr M E pa Aa ca ba pb Ab cb bb sa sb) {g : Nat} {o : Obj} (hg : wr.heap[g]? = some o) (hE : E ≤ g) (hk : Kept wr w1 (CB pa ba)) : w1.heap[g]? = some o :=
  by
  have := h.a.hp
  have := h.b.lp
  have := h.b.hp
  have := h.a.hm
  have := h.b.lm
  have := h.b.hm
  exact blk_kept hg hk (fun hs => by rcases hs with rfl | rfl <;> omega)
theorem TwoC.box' (h : TwoC w wr M E pa Aa ca ba pb Ab cb bb sa sb) {g : Nat} {o : Obj} (hg : wr.heap[g]? = some o) (hE : E ≤ g) (hk : Kept wr w1 (CB pb bb)) : w1.heap[g]? = some o :=
  by
  have := h.b.hp
  have := h.b.hm
  exact blk_kept hg hk (fun hs => by rcases hs with rfl | rfl <;> omega)
end
end Go.Proofs.Ytjhgbddcenhkfaa.P
