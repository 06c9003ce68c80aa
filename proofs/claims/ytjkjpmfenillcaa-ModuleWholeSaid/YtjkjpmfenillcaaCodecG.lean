import Derived.Test.YtjkjpmfenillcaaCodecC
/- codec: the makers of fields; no statement of the seat. -/
set_option linter.unusedVariables false
set_option linter.unusedSimpArgs false
namespace Go.Proofs.Ytjkjpmfenillcaa.P
open Go.RowKit Go.Proofs.YtjkjpmfenillcaaW.PrintWords Go.Proofs.YtjkjpmfenillcaaW.PrintLast Go.Proofs.YtjkjpmfenillcaaW.PrintMore
def manyV (dc df : Nat) : Array Value := #[.func (.func 95) #[] #[.pointer (some ⟨dc, 0, none⟩), .pointer (some ⟨df, 0, none⟩)], .func (.func 96) #[] #[.pointer (some ⟨dc, 0, none⟩), .pointer (some ⟨df, 0, none⟩)]]
theorem NumF.alloc {w : World} {b1 b2 n : Nat} {most : Int} (h : NumF w b1 b2 n most) (o : Obj) : NumF (w.alloc o) b1 b2 n most := ⟨blk_alloc h.s o, blk_alloc h.m o, h.hn⟩
theorem two_far {w : World} {b g : Nat} {o : Obj} (h : w.heap[b]? = some o) (hne : b ≠ g) (u v : Value) : ((w.setCell ⟨g, 0, none⟩ u).setCell ⟨g, 1, none⟩ v).heap[b]? = some o :=
  (Below.heap_setCell _ ⟨g, 1, none⟩ v b hne).trans ((Below.heap_setCell w ⟨g, 0, none⟩ u b hne).trans h)
set_option maxRecDepth 100000 in
set_option maxHeartbeats 1000000 in
theorem many_I (a b : Value) (ca cb : Array Value) (ha : a = .func (.func 105) #[] ca) (hb : b = .func (.func 107) #[] cb) (w : World) :
    Calls Try.prog 61 #[.agg #[a, b]] w fun r w' => ∃ bc bf c1 c2, r = .returned (.agg (manyV bc bf)) ∧ ManyF w' bc bf c1 c2 118 #[a, b] ∧ Below w.heap.size w w' := by
  subst ha hb
  have hnn : ∀ W, (binOp .eql 115 (.func (.func 105) #[] ca) .nilFunc).run Try.prog W = .ok (.bool false) W := fun _ => by kernel_rfl
  go_enter Try.func61, Try.ntmps61
  go_wp2_with fail
  refine (number_run 2 4096 (by decide) _).mono ?_
  rintro r w' ⟨b1, b2, rfl, hf, hb⟩
  have h0 : w'.heap[w.heap.size]? = some (.cells #[.func (.func 105) #[] ca, .func (.func 107) #[] cb] 118 (0, 0)) := blk_below (blk_alloc (blk_new w _) _) hb
  have h1 : w'.heap[w.heap.size + 1]? = some (.cells #[.nilFunc, .nilFunc] 135 (0, 0)) := by
    refine blk_below ?_ hb
    have h := blk_new (w.alloc (.cells #[.func (.func 105) #[] ca, .func (.func 107) #[] cb] 118)) (.cells #[.nilFunc, .nilFunc] 135)
    rw [World.size_alloc] at h
    exact h
  have hsz : w.heap.size + 1 < w'.heap.size := blk_lt h1
  have q0 : w'.cell? ⟨w.heap.size + 1, 0, none⟩ = some .nilFunc := blk_cell h1 0
  have q1 : w'.cell? ⟨w.heap.size + 1, 1, none⟩ = some .nilFunc := blk_cell h1 1
  have p0 := blkO_free h1 0
  have p1 := blkO_free h1 1
  have kb : Below w.heap.size w w' := ((Below.refl _ w).alloc (Nat.le_refl _) _).alloc (by rw [World.size_alloc]; omega) _ |>.trans (hb.mono (by simp; omega))
  have HH := Aside0.mk (And.intro h1 (And.intro hf (And.intro h0 kb)))
  clear hf hb h0 h1 kb
  simp only [numV]
  go_wp2_with fail
  obtain ⟨h1, hf, h0, kb⟩ := HH.out
  have n1 := blk_ne hf.s h1 (by decide)
  have n2 := blk_ne hf.m h1 (by decide)
  refine bodyPost_ret (v := .agg (manyV w'.heap.size w.heap.size)) (cell_res (g := w.heap.size + 1) rfl rfl (blk_alloc (two_set h1 _ _) _) Try.underlying135 rfl (by kernel_rfl)) rfl ⟨_, _, b1, b2, rfl, ⟨?_, ((hf.set n1 n2 _ _).set n1 n2 _ _).alloc _, ?_⟩, (two_below (w' := w') kb (by omega) _ _).alloc (by simp only [World.size_setCell]; omega) _⟩
  · have h := blk_new ((w'.setCell ⟨w.heap.size + 1, 0, none⟩ ((manyV w'.heap.size w.heap.size)[0]!)).setCell ⟨w.heap.size + 1, 1, none⟩ ((manyV w'.heap.size w.heap.size)[1]!)) (.cells (numV b1 b2) 118)
    simp only [World.size_setCell] at h
    exact h
  · exact blk_alloc (blk_far (p := ⟨w.heap.size + 1, 1, none⟩) (blk_far (p := ⟨w.heap.size + 1, 0, none⟩) h0 (by show w.heap.size ≠ w.heap.size + 1; omega) _) (by show w.heap.size ≠ w.heap.size + 1; omega) _) _
def blobV (bb : Nat) : Array Value := #[.func (.func 84) #[] #[.pointer (some ⟨bb, 0, none⟩)], .func (.func 86) #[] #[.pointer (some ⟨bb, 0, none⟩)]]
set_option maxRecDepth 100000 in
set_option maxHeartbeats 1000000 in
theorem blob_make (w : World) : Calls Try.prog 57 #[] w fun r w' => ∃ bb c1 c2, r = .returned (.agg (blobV bb)) ∧ BlobF w' bb c1 c2 ∧ Below w.heap.size w w' := by
  go_enter Try.func57, Try.ntmps57
  go_wp2_with fail
  refine (number_run 4 65536 (by decide) _).mono ?_
  rintro r w' ⟨b1, b2, rfl, hf, hb⟩
  have h1 : w'.heap[w.heap.size]? = some (.cells #[.nilFunc, .nilFunc] 123 (0, 0)) := blk_below (blk_new w _) hb
  have hsz : w.heap.size < w'.heap.size := blk_lt h1
  have q0 : w'.cell? ⟨w.heap.size, 0, none⟩ = some .nilFunc := blk_cell h1 0
  have q1 : w'.cell? ⟨w.heap.size, 1, none⟩ = some .nilFunc := blk_cell h1 1
  have p0 := blkO_free h1 0
  have p1 := blkO_free h1 1
  have kb : Below w.heap.size w w' := ((Below.refl _ w).alloc (Nat.le_refl _) _).trans (hb.mono (by simp))
  have HH := Aside0.mk (And.intro h1 (And.intro hf kb))
  clear hf hb h1 kb
  simp only [numV]
  go_wp2_with fail
  obtain ⟨h1, hf, kb⟩ := HH.out
  have n1 := blk_ne hf.s h1 (by decide)
  have n2 := blk_ne hf.m h1 (by decide)
  refine bodyPost_ret (v := .agg (blobV w'.heap.size)) (cell_res (g := w.heap.size) rfl rfl (blk_alloc (two_set h1 _ _) _) Try.underlying123 rfl (by kernel_rfl)) rfl ⟨_, b1, b2, rfl, ⟨?_, ((hf.set n1 n2 _ _).set n1 n2 _ _).alloc _⟩, (two_below (w' := w') kb (Nat.le_refl _) _ _).alloc (by simp only [World.size_setCell]; omega) _⟩
  have h := blk_new ((w'.setCell ⟨w.heap.size, 0, none⟩ ((blobV w'.heap.size)[0]!)).setCell ⟨w.heap.size, 1, none⟩ ((blobV w'.heap.size)[1]!)) (.cells (numV b1 b2) 118)
  simp only [World.size_setCell] at h
  exact h
def fixV (bm bn : Nat) : Array Value := #[.func (.func 91) #[] #[.pointer (some ⟨bm, 0, none⟩), .pointer (some ⟨bn, 0, none⟩)], .func (.func 92) #[] #[.pointer (some ⟨bm, 0, none⟩), .pointer (some ⟨bn, 0, none⟩)]]
set_option maxRecDepth 100000 in
set_option maxHeartbeats 1000000 in
theorem fixed_make (n : Int) (w : World) : Calls Try.prog 59 #[.int .i64 n] w fun r w' => ∃ bm bn, r = .returned (.agg (fixV bm bn)) ∧ FixF w' bm bn n ∧ Below w.heap.size w w' := by
  have run : ∀ m : Bool, mayN n = m → Calls Try.prog 59 #[.int .i64 n] w fun r w' => r = .returned (.agg (fixV (w.heap.size + 1 + 1) w.heap.size)) ∧ w'.heap[w.heap.size + 1 + 1]? = some (.cells #[.bool m] 4 (0, 0)) ∧ w'.heap[w.heap.size]? = some (.cells #[.int .i64 n] 3 (0, 0)) ∧ Below w.heap.size w w' := by
    intro m hm
    have fin : ∀ m : Bool, ∃ w4 : World, w4 = (((w.alloc (.cells #[.int .i64 n] 3)).alloc (.cells (fixV (w.heap.size + 1 + 1) w.heap.size) 123)).alloc (.cells #[.bool m] 4)) ∧ w4.heap[w.heap.size + 1]? = some (.cells (fixV (w.heap.size + 1 + 1) w.heap.size) 123 (0, 0)) ∧ w4.heap[w.heap.size + 1 + 1]? = some (.cells #[.bool m] 4 (0, 0)) ∧ w4.heap[w.heap.size]? = some (.cells #[.int .i64 n] 3 (0, 0)) ∧ Below w.heap.size w w4 := by
      intro m
      have r0 := blk_new w (.cells #[.int .i64 n] 3)
      have r1 := blk_new (w.alloc (.cells #[.int .i64 n] 3)) (.cells (fixV (w.heap.size + 1 + 1) w.heap.size) 123)
      have r2 := blk_new ((w.alloc (.cells #[.int .i64 n] 3)).alloc (.cells (fixV (w.heap.size + 1 + 1) w.heap.size) 123)) (.cells #[.bool m] 4)
      simp only [World.size_alloc] at r1 r2
      exact ⟨_, rfl, blk_alloc r1 _, r2, blk_alloc (blk_alloc r0 _) _, below_alloc (below_alloc (below_alloc (Below.refl _ _) _) _) _⟩
    have FIN := Aside0.mk fin
    clear fin
    by_cases h0 : 0 ≤ n
    · by_cases h1 : n ≤ 65536
      · obtain rfl : m = true := by rw [← hm]; unfold mayN; rw [decide_eq_true h0, decide_eq_true h1]; rfl
        clear hm
        go_enter Try.func59, Try.ntmps59
        go_wp2_with fail
        obtain ⟨w4, hw4, a1, a2, a3, a4⟩ := FIN.out true
        refine bodyPost_ret (v := .agg (fixV (w.heap.size + 1 + 1) w.heap.size)) (cell_res (g := w.heap.size + 1) rfl rfl (by rw [hw4] at a1; exact a1) Try.underlying123 rfl (by kernel_rfl)) rfl ⟨rfl, by rw [hw4] at a2; exact a2, by rw [hw4] at a3; exact a3, by rw [hw4] at a4; exact a4⟩
      · obtain rfl : m = false := by rw [← hm]; unfold mayN; rw [decide_eq_false h1, Bool.and_false]
        clear hm
        have h1' : decide (n ≤ 65536) = false := decide_eq_false h1
        clear h1
        go_enter Try.func59, Try.ntmps59
        go_wp2_with fail
        obtain ⟨w4, hw4, a1, a2, a3, a4⟩ := FIN.out false
        refine bodyPost_ret (v := .agg (fixV (w.heap.size + 1 + 1) w.heap.size)) (cell_res (g := w.heap.size + 1) rfl rfl (by rw [hw4] at a1; exact a1) Try.underlying123 rfl (by kernel_rfl)) rfl ⟨rfl, by rw [hw4] at a2; exact a2, by rw [hw4] at a3; exact a3, by rw [hw4] at a4; exact a4⟩
    · obtain rfl : m = false := by rw [← hm]; unfold mayN; rw [decide_eq_false h0, Bool.false_and]
      clear hm
      have h0' : decide (0 ≤ n) = false := decide_eq_false h0
      clear h0
      go_enter Try.func59, Try.ntmps59
      go_wp2_with fail
      obtain ⟨w4, hw4, a1, a2, a3, a4⟩ := FIN.out false
      refine bodyPost_ret (v := .agg (fixV (w.heap.size + 1 + 1) w.heap.size)) (cell_res (g := w.heap.size + 1) rfl rfl (by rw [hw4] at a1; exact a1) Try.underlying123 rfl (by kernel_rfl)) rfl ⟨rfl, by rw [hw4] at a2; exact a2, by rw [hw4] at a3; exact a3, by rw [hw4] at a4; exact a4⟩
  refine (run (mayN n) rfl).mono ?_
  rintro r w' ⟨h1, h2, h3, h4⟩
  exact ⟨_, _, h1, ⟨h2, h3⟩, h4⟩
end Go.Proofs.Ytjkjpmfenillcaa.P
/- codec.Encode; no statement of the seat. -/
set_option linter.unusedVariables false
set_option linter.unusedSimpArgs false
namespace Go.Proofs.Ytjkjpmfenillcaa.P
open Go.RowKit Go.Proofs.YtjkjpmfenillcaaW.PrintWords Go.Proofs.YtjkjpmfenillcaaW.PrintLast Go.Proofs.YtjkjpmfenillcaaW.PrintMore
/-- A code, or why there is none. -/
def encR (s : List Int × Int) : List Int × Int := if s.2 = 0 then (s.1, 0) else ([], s.2)
set_option maxRecDepth 100000 in
set_option maxHeartbeats 1000000 in
theorem clip_run (A : Option Addr) (n c : Nat) (xs : List Int) (w : World) (B e : Nat) (h : Kd.R (Kd.int .u8) e w B (fun _ => True) (.slice A n c) xs) : Calls Try.prog 66 #[.slice A n c] w fun r w' => (∃ A', r = .returned (.slice A' n n) ∧ Kd.C (Kd.int .u8) w A' n xs) ∧ w' = w := by
  obtain ⟨hn, hc, hC⟩ := Kd.R_reads' h
  have hmx := Kd.C_max hC
  obtain ⟨i0, hi0, _, hs0, _⟩ := info_parts (show (Try.prog.info? 5).map (fun i => (i.zero, i.size, i.bytes)) = some (some (.int .u8 0), 1, 1) by kernel_rfl)
  have hcut : ∀ W, (Instr.slice 22 (.slice A n c) none (some (.int .i64 (n : Int))) (some (.int .i64 (n : Int)))).run Try.prog W = .ok (.slice (if n = 0 then A else A.map (·.add 0)) n n) W := by
    intro W
    have hu : Try.prog.underlying 22 = some (.slice (Try.prog.elem 22)) := by kernel_rfl
    rw [run_slice_hm W 22 A n c hu .i64 .i64 (n : Int) (n : Int) (by omega) (by omega) (by omega)]
    have hz : (sizeOf (Try.prog.elem 22)).run Try.prog W = .ok 1 W := by kernel_rfl
    rw [hz]
    simp [sliced, Result.andThen]
  have hC2 : Kd.C (Kd.int .u8) w A n xs := by rw [hn]; exact hC
  have HC := Aside0.mk hC2
  clear h hC hC2 hi0 hs0 hn
  go_enter Try.func66, Try.ntmps66
  go_wp2_with fail
  go_ret
  exact ⟨⟨_, rfl, HC.out⟩, rfl⟩
theorem FixF.below {w w1 : World} {bm bn : Nat} {n : Int} (h : FixF w bm bn n) (hb : Below w.heap.size w w1) : FixF w1 bm bn n := ⟨blk_below h.m hb, blk_below h.n hb⟩
end Go.Proofs.Ytjkjpmfenillcaa.P
/- codec.First, Decode; no statement of the seat. -/
set_option linter.unusedVariables false
set_option linter.unusedSimpArgs false
namespace Go.Proofs.Ytjkjpmfenillcaa.P
open Go.RowKit Go.Proofs.YtjkjpmfenillcaaW.PrintWords Go.Proofs.YtjkjpmfenillcaaW.PrintLast Go.Proofs.YtjkjpmfenillcaaW.PrintMore
/-- What a beginning is, and how long its code. -/
def fstR {α : Type} (G : List Int × Bool → α × List Int × Bool) (z : α) (b : List Int) : α × Int × Int :=
  if ((G (b, false)).2.2 || decide ((b.length : Int) - ((G (b, false)).2.1.length : Int) > 1048576)) = true then (z, 0, 10) else ((G (b, false)).1, (b.length : Int) - ((G (b, false)).2.1.length : Int), 0)
def decR {α : Type} (G : List Int × Bool → α × List Int × Bool) (z : α) (b : List Int) : α × Int :=
  if (fstR G z b).2.2 ≠ 0 then (z, (fstR G z b).2.2) else if (fstR G z b).2.1 < b.length then (z, 10) else ((fstR G z b).1, 0)
theorem InTo.drewN {w0 w w' : World} {p : Nat} {s : List Int × Bool} (h : InTo w0 w p s w') (m : Nat) : InTo w0 w p s (w'.drewN m) := by
  obtain ⟨⟨A, c, h1⟩, hk⟩ := h
  exact ⟨⟨A, c, h1.le, h1.blk, h1.rd, h1.cap, h1.ok, pw_below_drewN h1.lo m⟩, keep_drewN hk m⟩
end Go.Proofs.Ytjkjpmfenillcaa.P
