/- codec: the makers of fields; no statement of the seat. -/
import Derived.Test.YtdlkkjfbbeffbaaCodecF
set_option linter.unusedVariables false
set_option linter.unusedSimpArgs false
namespace Go.Proofs.Ytdlkkjfbbeffbaa.P
open Go.RowKit Go.Proofs.YtdlkkjfbbeffbaaW.PrintWords Go.Proofs.YtdlkkjfbbeffbaaW.PrintLast Go.Proofs.YtdlkkjfbbeffbaaW.PrintMore
theorem NumF.alloc {w : World} {b1 b2 n : Nat} {most : Int} (h : NumF w b1 b2 n most) (o : Obj) : NumF (w.alloc o) b1 b2 n most := ⟨blk_alloc h.s o, blk_alloc h.m o, h.hn⟩
theorem two_far {w : World} {b g : Nat} {o : Obj} (h : w.heap[b]? = some o) (hne : b ≠ g) (u v : Value) : ((w.setCell ⟨g, 0, none⟩ u).setCell ⟨g, 1, none⟩ v).heap[b]? = some o :=
  (Below.heap_setCell _ ⟨g, 1, none⟩ v b hne).trans ((Below.heap_setCell w ⟨g, 0, none⟩ u b hne).trans h)
def manyJV (dc df : Nat) : Array Value := #[.func (.func 54) #[] #[.pointer (some ⟨dc, 0, none⟩), .pointer (some ⟨df, 0, none⟩)], .func (.func 55) #[] #[.pointer (some ⟨dc, 0, none⟩), .pointer (some ⟨df, 0, none⟩)]]
def manyPV (dc df : Nat) : Array Value := #[.func (.func 81) #[] #[.pointer (some ⟨dc, 0, none⟩), .pointer (some ⟨df, 0, none⟩)], .func (.func 82) #[] #[.pointer (some ⟨dc, 0, none⟩), .pointer (some ⟨df, 0, none⟩)]]
set_option maxRecDepth 100000 in
set_option maxHeartbeats 1000000 in
theorem many_I (a b : Value) (ca cb : Array Value) (ha : a = .func (.func 86) #[] ca) (hb : b = .func (.func 88) #[] cb) (w : World) :
    Calls Try.prog 13 #[.agg #[a, b]] w fun r w' => ∃ bc bf c1 c2, r = .returned (.agg (manyV bc bf)) ∧ ManyF w' bc bf c1 c2 37 #[a, b] ∧ Below w.heap.size w w' := by
  subst ha hb
  have hnn : ∀ W, (binOp .eql 34 (.func (.func 86) #[] ca) .nilFunc).run Try.prog W = .ok (.bool false) W := fun _ => by kernel_rfl
  go_enter Try.func13, Try.ntmps13
  go_wp2_with fail
  refine (number_run 2 4096 (by decide) _).mono ?_
  rintro r w' ⟨b1, b2, rfl, hf, hb⟩
  have h0 : w'.heap[w.heap.size]? = some (.cells #[.func (.func 86) #[] ca, .func (.func 88) #[] cb] 37 (0, 0)) := blk_below (blk_alloc (blk_new w _) _) hb
  have h1 : w'.heap[w.heap.size + 1]? = some (.cells #[.nilFunc, .nilFunc] 32 (0, 0)) := by
    refine blk_below ?_ hb
    have h := blk_new (w.alloc (.cells #[.func (.func 86) #[] ca, .func (.func 88) #[] cb] 37)) (.cells #[.nilFunc, .nilFunc] 32)
    rw [World.size_alloc] at h
    exact h
  have hsz : w.heap.size + 1 < w'.heap.size := blk_lt h1
  have q0 : w'.cell? ⟨w.heap.size + 1, 0, none⟩ = some .nilFunc := blk_cell h1 0
  have q1 : w'.cell? ⟨w.heap.size + 1, 1, none⟩ = some .nilFunc := blk_cell h1 1
  have p0 := blkO_free h1 0
  have p1 := blkO_free h1 1
  have kb : Below w.heap.size w w' := ((Below.refl _ w).alloc (Nat.le_refl _) _).alloc (by rw [World.size_alloc]; omega) _ |>.trans (hb.mono (by simp; omega))
  have HH := Aside0.mk (And.intro h1 (And.intro hf (And.intro h0 kb)))
  clear hf hb h0 h1 kb
  simp only [numV]
  go_wp2_with fail
  obtain ⟨h1, hf, h0, kb⟩ := HH.out
  have n1 := blk_ne hf.s h1 (by decide)
  have n2 := blk_ne hf.m h1 (by decide)
  refine bodyPost_ret (v := .agg (manyV w'.heap.size w.heap.size)) (cell_res (g := w.heap.size + 1) rfl rfl (blk_alloc (two_set h1 _ _) _) Try.underlying32 rfl (by kernel_rfl)) rfl ⟨_, _, b1, b2, rfl, ⟨?_, ((hf.set n1 n2 _ _).set n1 n2 _ _).alloc _, ?_⟩, (two_below (w' := w') kb (by omega) _ _).alloc (by simp only [World.size_setCell]; omega) _⟩
  · have h := blk_new ((w'.setCell ⟨w.heap.size + 1, 0, none⟩ ((manyV w'.heap.size w.heap.size)[0]!)).setCell ⟨w.heap.size + 1, 1, none⟩ ((manyV w'.heap.size w.heap.size)[1]!)) (.cells (numV b1 b2) 37)
    simp only [World.size_setCell] at h
    exact h
  · exact blk_alloc (blk_far (p := ⟨w.heap.size + 1, 1, none⟩) (blk_far (p := ⟨w.heap.size + 1, 0, none⟩) h0 (by show w.heap.size ≠ w.heap.size + 1; omega) _) (by show w.heap.size ≠ w.heap.size + 1; omega) _) _
set_option maxRecDepth 100000 in
set_option maxHeartbeats 1000000 in
theorem many_J (a b : Value) (ca cb : Array Value) (ha : a = .func (.func 56) #[] ca) (hb : b = .func (.func 57) #[] cb) (w : World) :
    Calls Try.prog 12 #[.agg #[a, b]] w fun r w' => ∃ bc bf c1 c2, r = .returned (.agg (manyJV bc bf)) ∧ ManyF w' bc bf c1 c2 32 #[a, b] ∧ Below w.heap.size w w' := by
  subst ha hb
  have hnn : ∀ W, (binOp .eql 29 (.func (.func 56) #[] ca) .nilFunc).run Try.prog W = .ok (.bool false) W := fun _ => by kernel_rfl
  go_enter Try.func12, Try.ntmps12
  go_wp2_with fail
  refine (number_run 2 4096 (by decide) _).mono ?_
  rintro r w' ⟨b1, b2, rfl, hf, hb⟩
  have h0 : w'.heap[w.heap.size]? = some (.cells #[.func (.func 56) #[] ca, .func (.func 57) #[] cb] 32 (0, 0)) := blk_below (blk_alloc (blk_new w _) _) hb
  have h1 : w'.heap[w.heap.size + 1]? = some (.cells #[.nilFunc, .nilFunc] 26 (0, 0)) := by
    refine blk_below ?_ hb
    have h := blk_new (w.alloc (.cells #[.func (.func 56) #[] ca, .func (.func 57) #[] cb] 32)) (.cells #[.nilFunc, .nilFunc] 26)
    rw [World.size_alloc] at h
    exact h
  have hsz : w.heap.size + 1 < w'.heap.size := blk_lt h1
  have q0 : w'.cell? ⟨w.heap.size + 1, 0, none⟩ = some .nilFunc := blk_cell h1 0
  have q1 : w'.cell? ⟨w.heap.size + 1, 1, none⟩ = some .nilFunc := blk_cell h1 1
  have p0 := blkO_free h1 0
  have p1 := blkO_free h1 1
  have kb : Below w.heap.size w w' := ((Below.refl _ w).alloc (Nat.le_refl _) _).alloc (by rw [World.size_alloc]; omega) _ |>.trans (hb.mono (by simp; omega))
  have HH := Aside0.mk (And.intro h1 (And.intro hf (And.intro h0 kb)))
  clear hf hb h0 h1 kb
  simp only [numV]
  go_wp2_with fail
  obtain ⟨h1, hf, h0, kb⟩ := HH.out
  have n1 := blk_ne hf.s h1 (by decide)
  have n2 := blk_ne hf.m h1 (by decide)
  refine bodyPost_ret (v := .agg (manyJV w'.heap.size w.heap.size)) (cell_res (g := w.heap.size + 1) rfl rfl (blk_alloc (two_set h1 _ _) _) Try.underlying26 rfl (by kernel_rfl)) rfl ⟨_, _, b1, b2, rfl, ⟨?_, ((hf.set n1 n2 _ _).set n1 n2 _ _).alloc _, ?_⟩, (two_below (w' := w') kb (by omega) _ _).alloc (by simp only [World.size_setCell]; omega) _⟩
  · have h := blk_new ((w'.setCell ⟨w.heap.size + 1, 0, none⟩ ((manyJV w'.heap.size w.heap.size)[0]!)).setCell ⟨w.heap.size + 1, 1, none⟩ ((manyJV w'.heap.size w.heap.size)[1]!)) (.cells (numV b1 b2) 37)
    simp only [World.size_setCell] at h
    exact h
  · exact blk_alloc (blk_far (p := ⟨w.heap.size + 1, 1, none⟩) (blk_far (p := ⟨w.heap.size + 1, 0, none⟩) h0 (by show w.heap.size ≠ w.heap.size + 1; omega) _) (by show w.heap.size ≠ w.heap.size + 1; omega) _) _
set_option maxRecDepth 100000 in
set_option maxHeartbeats 1000000 in
theorem many_P (a b : Value) (ca cb : Array Value) (ha : a = .func (.func 83) #[] ca) (hb : b = .func (.func 84) #[] cb) (w : World) :
    Calls Try.prog 46 #[.agg #[a, b]] w fun r w' => ∃ bc bf c1 c2, r = .returned (.agg (manyPV bc bf)) ∧ ManyF w' bc bf c1 c2 109 #[a, b] ∧ Below w.heap.size w w' := by
  subst ha hb
  have hnn : ∀ W, (binOp .eql 106 (.func (.func 83) #[] ca) .nilFunc).run Try.prog W = .ok (.bool false) W := fun _ => by kernel_rfl
  go_enter Try.func46, Try.ntmps46
  go_wp2_with fail
  refine (number_run 2 4096 (by decide) _).mono ?_
  rintro r w' ⟨b1, b2, rfl, hf, hb⟩
  have h0 : w'.heap[w.heap.size]? = some (.cells #[.func (.func 83) #[] ca, .func (.func 84) #[] cb] 109 (0, 0)) := blk_below (blk_alloc (blk_new w _) _) hb
  have h1 : w'.heap[w.heap.size + 1]? = some (.cells #[.nilFunc, .nilFunc] 104 (0, 0)) := by
    refine blk_below ?_ hb
    have h := blk_new (w.alloc (.cells #[.func (.func 83) #[] ca, .func (.func 84) #[] cb] 109)) (.cells #[.nilFunc, .nilFunc] 104)
    rw [World.size_alloc] at h
    exact h
  have hsz : w.heap.size + 1 < w'.heap.size := blk_lt h1
  have q0 : w'.cell? ⟨w.heap.size + 1, 0, none⟩ = some .nilFunc := blk_cell h1 0
  have q1 : w'.cell? ⟨w.heap.size + 1, 1, none⟩ = some .nilFunc := blk_cell h1 1
  have p0 := blkO_free h1 0
  have p1 := blkO_free h1 1
  have kb : Below w.heap.size w w' := ((Below.refl _ w).alloc (Nat.le_refl _) _).alloc (by rw [World.size_alloc]; omega) _ |>.trans (hb.mono (by simp; omega))
  have HH := Aside0.mk (And.intro h1 (And.intro hf (And.intro h0 kb)))
  clear hf hb h0 h1 kb
  simp only [numV]
  go_wp2_with fail
  obtain ⟨h1, hf, h0, kb⟩ := HH.out
  have n1 := blk_ne hf.s h1 (by decide)
  have n2 := blk_ne hf.m h1 (by decide)
  refine bodyPost_ret (v := .agg (manyPV w'.heap.size w.heap.size)) (cell_res (g := w.heap.size + 1) rfl rfl (blk_alloc (two_set h1 _ _) _) Try.underlying104 rfl (by kernel_rfl)) rfl ⟨_, _, b1, b2, rfl, ⟨?_, ((hf.set n1 n2 _ _).set n1 n2 _ _).alloc _, ?_⟩, (two_below (w' := w') kb (by omega) _ _).alloc (by simp only [World.size_setCell]; omega) _⟩
  · have h := blk_new ((w'.setCell ⟨w.heap.size + 1, 0, none⟩ ((manyPV w'.heap.size w.heap.size)[0]!)).setCell ⟨w.heap.size + 1, 1, none⟩ ((manyPV w'.heap.size w.heap.size)[1]!)) (.cells (numV b1 b2) 37)
    simp only [World.size_setCell] at h
    exact h
  · exact blk_alloc (blk_far (p := ⟨w.heap.size + 1, 1, none⟩) (blk_far (p := ⟨w.heap.size + 1, 0, none⟩) h0 (by show w.heap.size ≠ w.heap.size + 1; omega) _) (by show w.heap.size ≠ w.heap.size + 1; omega) _) _
def blobV (bb : Nat) : Array Value := #[.func (.func 69) #[] #[.pointer (some ⟨bb, 0, none⟩)], .func (.func 71) #[] #[.pointer (some ⟨bb, 0, none⟩)]]
set_option maxRecDepth 100000 in
set_option maxHeartbeats 1000000 in
theorem blob_make (w : World) : Calls Try.prog 39 #[] w fun r w' => ∃ bb c1 c2, r = .returned (.agg (blobV bb)) ∧ BlobF w' bb c1 c2 ∧ Below w.heap.size w w' := by
  go_enter Try.func39, Try.ntmps39
  go_wp2_with fail
  refine (number_run 4 65536 (by decide) _).mono ?_
  rintro r w' ⟨b1, b2, rfl, hf, hb⟩
  have h1 : w'.heap[w.heap.size]? = some (.cells #[.nilFunc, .nilFunc] 86 (0, 0)) := blk_below (blk_new w _) hb
  have hsz : w.heap.size < w'.heap.size := blk_lt h1
  have q0 : w'.cell? ⟨w.heap.size, 0, none⟩ = some .nilFunc := blk_cell h1 0
  have q1 : w'.cell? ⟨w.heap.size, 1, none⟩ = some .nilFunc := blk_cell h1 1
  have p0 := blkO_free h1 0
  have p1 := blkO_free h1 1
  have kb : Below w.heap.size w w' := ((Below.refl _ w).alloc (Nat.le_refl _) _).trans (hb.mono (by simp))
  have HH := Aside0.mk (And.intro h1 (And.intro hf kb))
  clear hf hb h1 kb
  simp only [numV]
  go_wp2_with fail
  obtain ⟨h1, hf, kb⟩ := HH.out
  have n1 := blk_ne hf.s h1 (by decide)
  have n2 := blk_ne hf.m h1 (by decide)
  refine bodyPost_ret (v := .agg (blobV w'.heap.size)) (cell_res (g := w.heap.size) rfl rfl (blk_alloc (two_set h1 _ _) _) Try.underlying86 rfl (by kernel_rfl)) rfl ⟨_, b1, b2, rfl, ⟨?_, ((hf.set n1 n2 _ _).set n1 n2 _ _).alloc _⟩, (two_below (w' := w') kb (Nat.le_refl _) _ _).alloc (by simp only [World.size_setCell]; omega) _⟩
  have h := blk_new ((w'.setCell ⟨w.heap.size, 0, none⟩ ((blobV w'.heap.size)[0]!)).setCell ⟨w.heap.size, 1, none⟩ ((blobV w'.heap.size)[1]!)) (.cells (numV b1 b2) 37)
  simp only [World.size_setCell] at h
  exact h
def flagV (bf bt bk : Nat) : Array Value := #[.func (.func 90) #[] #[.pointer (some ⟨bf, 0, none⟩), .pointer (some ⟨bt, 0, none⟩)], .func (.func 91) #[] #[.pointer (some ⟨bk, 0, none⟩), .pointer (some ⟨bf, 0, none⟩)]]
def textV (bf bt bk : Nat) : Array Value := #[.func (.func 93) #[] #[.pointer (some ⟨bf, 0, none⟩), .pointer (some ⟨bt, 0, none⟩)], .func (.func 94) #[] #[.pointer (some ⟨bk, 0, none⟩), .pointer (some ⟨bf, 0, none⟩)]]
set_option maxRecDepth 100000 in
set_option maxHeartbeats 1000000 in
theorem turned_I (f1 f2 : Nat) (ca cb : Array Value) (w : World) : Calls Try.prog 64 #[.agg #[.func (.func f1) #[] ca, .func (.func f2) #[] cb], .func (.func 65) #[] #[], .func (.func 66) #[] #[]] w fun r w' => r = .returned (.agg (flagV w.heap.size (w.heap.size + 1) (w.heap.size + 1 + 1))) ∧ w'.heap[w.heap.size]? = some (.cells #[.func (.func f1) #[] ca, .func (.func f2) #[] cb] 37 (0, 0)) ∧ w'.heap[w.heap.size + 1]? = some (.cells #[.func (.func 65) #[] #[]] 134 (0, 0)) ∧ w'.heap[w.heap.size + 1 + 1]? = some (.cells #[.func (.func 66) #[] #[]] 58 (0, 0)) ∧ Below w.heap.size w w' := by
  go_enter Try.func64, Try.ntmps64
  go_wp2_with fail
  have r0 := blk_new w (.cells #[.func (.func f1) #[] ca, .func (.func f2) #[] cb] 37)
  have r1 := blk_new (w.alloc (.cells #[.func (.func f1) #[] ca, .func (.func f2) #[] cb] 37)) (.cells #[.func (.func 65) #[] #[]] 134)
  have r2 := blk_new ((w.alloc (.cells #[.func (.func f1) #[] ca, .func (.func f2) #[] cb] 37)).alloc (.cells #[.func (.func 65) #[] #[]] 134)) (.cells #[.func (.func 66) #[] #[]] 58)
  have r3 := blk_new (((w.alloc (.cells #[.func (.func f1) #[] ca, .func (.func f2) #[] cb] 37)).alloc (.cells #[.func (.func 65) #[] #[]] 134)).alloc (.cells #[.func (.func 66) #[] #[]] 58)) (.cells (flagV w.heap.size (w.heap.size + 1) (w.heap.size + 1 + 1)) 70)
  simp only [World.size_alloc] at r1 r2 r3
  refine bodyPost_ret (v := .agg (flagV w.heap.size (w.heap.size + 1) (w.heap.size + 1 + 1))) (cell_res (g := w.heap.size + 1 + 1 + 1) rfl rfl r3 Try.underlying70 rfl (by kernel_rfl)) rfl ⟨rfl, blk_alloc (blk_alloc (blk_alloc r0 _) _) _, blk_alloc (blk_alloc r1 _) _, blk_alloc r2 _, below_alloc (below_alloc (below_alloc (below_alloc (Below.refl _ _) _) _) _) _⟩
set_option maxRecDepth 100000 in
set_option maxHeartbeats 1000000 in
theorem turned_S (f1 f2 : Nat) (ca cb : Array Value) (w : World) : Calls Try.prog 74 #[.agg #[.func (.func f1) #[] ca, .func (.func f2) #[] cb], .func (.func 75) #[] #[], .func (.func 76) #[] #[]] w fun r w' => r = .returned (.agg (textV w.heap.size (w.heap.size + 1) (w.heap.size + 1 + 1))) ∧ w'.heap[w.heap.size]? = some (.cells #[.func (.func f1) #[] ca, .func (.func f2) #[] cb] 86 (0, 0)) ∧ w'.heap[w.heap.size + 1]? = some (.cells #[.func (.func 75) #[] #[]] 141 (0, 0)) ∧ w'.heap[w.heap.size + 1 + 1]? = some (.cells #[.func (.func 76) #[] #[]] 142 (0, 0)) ∧ Below w.heap.size w w' := by
  go_enter Try.func74, Try.ntmps74
  go_wp2_with fail
  have r0 := blk_new w (.cells #[.func (.func f1) #[] ca, .func (.func f2) #[] cb] 86)
  have r1 := blk_new (w.alloc (.cells #[.func (.func f1) #[] ca, .func (.func f2) #[] cb] 86)) (.cells #[.func (.func 75) #[] #[]] 141)
  have r2 := blk_new ((w.alloc (.cells #[.func (.func f1) #[] ca, .func (.func f2) #[] cb] 86)).alloc (.cells #[.func (.func 75) #[] #[]] 141)) (.cells #[.func (.func 76) #[] #[]] 142)
  have r3 := blk_new (((w.alloc (.cells #[.func (.func f1) #[] ca, .func (.func f2) #[] cb] 86)).alloc (.cells #[.func (.func 75) #[] #[]] 141)).alloc (.cells #[.func (.func 76) #[] #[]] 142)) (.cells (textV w.heap.size (w.heap.size + 1) (w.heap.size + 1 + 1)) 92)
  simp only [World.size_alloc] at r1 r2 r3
  refine bodyPost_ret (v := .agg (textV w.heap.size (w.heap.size + 1) (w.heap.size + 1 + 1))) (cell_res (g := w.heap.size + 1 + 1 + 1) rfl rfl r3 Try.underlying92 rfl (by kernel_rfl)) rfl ⟨rfl, blk_alloc (blk_alloc (blk_alloc r0 _) _) _, blk_alloc (blk_alloc r1 _) _, blk_alloc r2 _, below_alloc (below_alloc (below_alloc (below_alloc (Below.refl _ _) _) _) _) _⟩
set_option maxRecDepth 100000 in
set_option maxHeartbeats 1000000 in
theorem flag_make (w : World) : Calls Try.prog 33 #[] w fun r w' => ∃ bf bt bk a1 a2, r = .returned (.agg (flagV bf bt bk)) ∧ FlagF w' bf bt bk a1 a2 ∧ Below w.heap.size w w' := by
  go_enter Try.func33, Try.ntmps33
  go_wp2_with fail
  refine (number_run 1 1 (by decide) _).mono ?_
  rintro r w1 ⟨b1, b2, rfl, hf, hb⟩
  have h1 : w1.heap[w.heap.size]? = some (.cells #[.nilFunc, .nilFunc] 70 (0, 0)) := blk_below (blk_new w _) hb
  have kb : Below w.heap.size w w1 := ((Below.refl _ w).alloc (Nat.le_refl _) _).trans (hb.mono (by simp))
  have HH := Aside0.mk (And.intro h1 (And.intro hf kb))
  clear hf hb h1 kb
  simp only [numV]
  go_wp2_with fail
  refine (turned_I 86 88 _ _ w1).mono ?_
  rintro r w2 ⟨rfl, e0, e1, e2, hb2⟩
  obtain ⟨h1, hf, kb⟩ := HH.out
  have h2 := blk_below h1 hb2
  have q0 : w2.cell? ⟨w.heap.size, 0, none⟩ = some .nilFunc := blk_cell h2 0
  have q1 : w2.cell? ⟨w.heap.size, 1, none⟩ = some .nilFunc := blk_cell h2 1
  have p0 := blkO_free h2 0
  have p1 := blkO_free h2 1
  have HF := Aside0.mk (show FlagF w2 w1.heap.size (w1.heap.size + 1) (w1.heap.size + 1 + 1) b1 b2 from ⟨e0, hf.below hb2, e1, e2⟩)
  have H2 := Aside0.mk (And.intro h2 (And.intro (kb.trans (hb2.mono (Nat.le_of_lt (blk_lt h1)))) (blk_lt h1)))
  clear h1 hf kb h2 e0 e1 e2 hb2
  simp only [flagV]
  go_wp2_with fail
  obtain ⟨h2, kb, hl⟩ := H2.out
  have hF := HF.out
  have n1 := blk_ne hF.n.s h2 (by decide)
  have n2 := blk_ne hF.n.m h2 (by decide)
  refine bodyPost_ret (v := .agg (flagV w1.heap.size (w1.heap.size + 1) (w1.heap.size + 1 + 1))) (cell_res (g := w.heap.size) rfl rfl (two_set h2 _ _) Try.underlying70 rfl (by kernel_rfl)) rfl ⟨_, _, _, b1, b2, rfl, ⟨?_, (hF.n.set n1 n2 _ _).set n1 n2 _ _, ?_, ?_⟩, two_below (w' := w2) kb (Nat.le_refl _) _ _⟩
  · exact two_far hF.f (by omega) _ _
  · exact two_far hF.t (by omega) _ _
  · exact two_far hF.k (by omega) _ _
set_option maxRecDepth 100000 in
set_option maxHeartbeats 1000000 in
theorem text_make (w : World) : Calls Try.prog 41 #[] w fun r w' => ∃ bf bt bk bb c1 c2, r = .returned (.agg (textV bf bt bk)) ∧ TextF w' bf bt bk bb c1 c2 ∧ Below w.heap.size w w' := by
  go_enter Try.func41, Try.ntmps41
  go_wp2_with fail
  refine (blob_make _).mono ?_
  rintro r w1 ⟨bb, b1, b2, rfl, hf, hb⟩
  have h1 : w1.heap[w.heap.size]? = some (.cells #[.nilFunc, .nilFunc] 92 (0, 0)) := blk_below (blk_new w _) hb
  have kb : Below w.heap.size w w1 := ((Below.refl _ w).alloc (Nat.le_refl _) _).trans (hb.mono (by simp))
  have HH := Aside0.mk (And.intro h1 (And.intro hf kb))
  clear hf hb h1 kb
  simp only [blobV]
  go_wp2_with fail
  refine (turned_S 69 71 _ _ w1).mono ?_
  rintro r w2 ⟨rfl, e0, e1, e2, hb2⟩
  obtain ⟨h1, hf, kb⟩ := HH.out
  have h2 := blk_below h1 hb2
  have q0 : w2.cell? ⟨w.heap.size, 0, none⟩ = some .nilFunc := blk_cell h2 0
  have q1 : w2.cell? ⟨w.heap.size, 1, none⟩ = some .nilFunc := blk_cell h2 1
  have p0 := blkO_free h2 0
  have p1 := blkO_free h2 1
  have HF := Aside0.mk (show TextF w2 w1.heap.size (w1.heap.size + 1) (w1.heap.size + 1 + 1) bb b1 b2 from ⟨e0, hf.below hb2, e1, e2⟩)
  have H2 := Aside0.mk (And.intro h2 (And.intro (kb.trans (hb2.mono (Nat.le_of_lt (blk_lt h1)))) (blk_lt h1)))
  clear h1 hf kb h2 e0 e1 e2 hb2
  simp only [textV]
  go_wp2_with fail
  obtain ⟨h2, kb, hl⟩ := H2.out
  have hF := HF.out
  have n1 := blk_ne hF.n.n.s h2 (by decide)
  have n2 := blk_ne hF.n.n.m h2 (by decide)
  refine bodyPost_ret (v := .agg (textV w1.heap.size (w1.heap.size + 1) (w1.heap.size + 1 + 1))) (cell_res (g := w.heap.size) rfl rfl (two_set h2 _ _) Try.underlying92 rfl (by kernel_rfl)) rfl ⟨_, _, _, bb, b1, b2, rfl, ⟨?_, ⟨two_far hF.n.c (blk_ne hF.n.c h2 (by decide)) _ _, (hF.n.n.set n1 n2 _ _).set n1 n2 _ _⟩, ?_, ?_⟩, two_below (w' := w2) kb (Nat.le_refl _) _ _⟩
  · exact two_far hF.f (by omega) _ _
  · exact two_far hF.t (by omega) _ _
  · exact two_far hF.k (by omega) _ _
set_option maxRecDepth 100000 in
set_option maxHeartbeats 1000000 in
theorem both_make (ca cb cc cd : Array Value) (w : World) : Calls Try.prog 47 #[.agg #[.func (.func 86) #[] ca, .func (.func 88) #[] cb], .agg #[.func (.func 69) #[] cc, .func (.func 71) #[] cd]] w fun r w' => r = .returned (.agg (bothV w.heap.size (w.heap.size + 1))) ∧ w'.heap[w.heap.size]? = some (.cells #[.func (.func 86) #[] ca, .func (.func 88) #[] cb] 37 (0, 0)) ∧ w'.heap[w.heap.size + 1]? = some (.cells #[.func (.func 69) #[] cc, .func (.func 71) #[] cd] 86 (0, 0)) ∧ Below w.heap.size w w' := by
  have hn1 : ∀ W, (binOp .eql 34 (.func (.func 86) #[] ca) .nilFunc).run Try.prog W = .ok (.bool false) W := fun _ => by kernel_rfl
  have hn2 : ∀ W, (binOp .eql 83 (.func (.func 69) #[] cc) .nilFunc).run Try.prog W = .ok (.bool false) W := fun _ => by kernel_rfl
  go_enter Try.func47, Try.ntmps47
  go_wp2_with fail
  have r0 := blk_new w (.cells #[.func (.func 86) #[] ca, .func (.func 88) #[] cb] 37)
  have r1 := blk_new (w.alloc (.cells #[.func (.func 86) #[] ca, .func (.func 88) #[] cb] 37)) (.cells #[.func (.func 69) #[] cc, .func (.func 71) #[] cd] 86)
  have r2 := blk_new ((w.alloc (.cells #[.func (.func 86) #[] ca, .func (.func 88) #[] cb] 37)).alloc (.cells #[.func (.func 69) #[] cc, .func (.func 71) #[] cd] 86)) (.cells (bothV w.heap.size (w.heap.size + 1)) 109)
  simp only [World.size_alloc] at r1 r2
  exact bodyPost_ret (v := .agg (bothV w.heap.size (w.heap.size + 1))) (cell_res (g := w.heap.size + 1 + 1) rfl rfl r2 Try.underlying109 rfl (by kernel_rfl)) rfl ⟨rfl, blk_alloc (blk_alloc r0 _) _, blk_alloc r1 _, below_alloc (below_alloc (below_alloc (Below.refl _ _) _) _) _⟩
def fixV (bm bn : Nat) : Array Value := #[.func (.func 79) #[] #[.pointer (some ⟨bm, 0, none⟩), .pointer (some ⟨bn, 0, none⟩)], .func (.func 80) #[] #[.pointer (some ⟨bm, 0, none⟩), .pointer (some ⟨bn, 0, none⟩)]]
set_option maxRecDepth 100000 in
set_option maxHeartbeats 1000000 in
theorem fixed_make (n : Int) (w : World) : Calls Try.prog 44 #[.int .i64 n] w fun r w' => ∃ bm bn, r = .returned (.agg (fixV bm bn)) ∧ FixF w' bm bn n ∧ Below w.heap.size w w' := by
  have run : ∀ m : Bool, mayN n = m → Calls Try.prog 44 #[.int .i64 n] w fun r w' => r = .returned (.agg (fixV (w.heap.size + 1 + 1) w.heap.size)) ∧ w'.heap[w.heap.size + 1 + 1]? = some (.cells #[.bool m] 4 (0, 0)) ∧ w'.heap[w.heap.size]? = some (.cells #[.int .i64 n] 3 (0, 0)) ∧ Below w.heap.size w w' := by
    intro m hm
    have fin : ∀ m : Bool, ∃ w4 : World, w4 = (((w.alloc (.cells #[.int .i64 n] 3)).alloc (.cells (fixV (w.heap.size + 1 + 1) w.heap.size) 86)).alloc (.cells #[.bool m] 4)) ∧ w4.heap[w.heap.size + 1]? = some (.cells (fixV (w.heap.size + 1 + 1) w.heap.size) 86 (0, 0)) ∧ w4.heap[w.heap.size + 1 + 1]? = some (.cells #[.bool m] 4 (0, 0)) ∧ w4.heap[w.heap.size]? = some (.cells #[.int .i64 n] 3 (0, 0)) ∧ Below w.heap.size w w4 := by
      intro m
      have r0 := blk_new w (.cells #[.int .i64 n] 3)
      have r1 := blk_new (w.alloc (.cells #[.int .i64 n] 3)) (.cells (fixV (w.heap.size + 1 + 1) w.heap.size) 86)
      have r2 := blk_new ((w.alloc (.cells #[.int .i64 n] 3)).alloc (.cells (fixV (w.heap.size + 1 + 1) w.heap.size) 86)) (.cells #[.bool m] 4)
      simp only [World.size_alloc] at r1 r2
      exact ⟨_, rfl, blk_alloc r1 _, r2, blk_alloc (blk_alloc r0 _) _, below_alloc (below_alloc (below_alloc (Below.refl _ _) _) _) _⟩
    have FIN := Aside0.mk fin
    clear fin
    by_cases h0 : 0 ≤ n
    · by_cases h1 : n ≤ 65536
      · obtain rfl : m = true := by rw [← hm]; unfold mayN; rw [decide_eq_true h0, decide_eq_true h1]; rfl
        clear hm
        go_enter Try.func44, Try.ntmps44
        go_wp2_with fail
        obtain ⟨w4, hw4, a1, a2, a3, a4⟩ := FIN.out true
        refine bodyPost_ret (v := .agg (fixV (w.heap.size + 1 + 1) w.heap.size)) (cell_res (g := w.heap.size + 1) rfl rfl (by rw [hw4] at a1; exact a1) Try.underlying86 rfl (by kernel_rfl)) rfl ⟨rfl, by rw [hw4] at a2; exact a2, by rw [hw4] at a3; exact a3, by rw [hw4] at a4; exact a4⟩
      · obtain rfl : m = false := by rw [← hm]; unfold mayN; rw [decide_eq_false h1, Bool.and_false]
        clear hm
        have h1' : decide (n ≤ 65536) = false := decide_eq_false h1
        clear h1
        go_enter Try.func44, Try.ntmps44
        go_wp2_with fail
        obtain ⟨w4, hw4, a1, a2, a3, a4⟩ := FIN.out false
        refine bodyPost_ret (v := .agg (fixV (w.heap.size + 1 + 1) w.heap.size)) (cell_res (g := w.heap.size + 1) rfl rfl (by rw [hw4] at a1; exact a1) Try.underlying86 rfl (by kernel_rfl)) rfl ⟨rfl, by rw [hw4] at a2; exact a2, by rw [hw4] at a3; exact a3, by rw [hw4] at a4; exact a4⟩
    · obtain rfl : m = false := by rw [← hm]; unfold mayN; rw [decide_eq_false h0, Bool.false_and]
      clear hm
      have h0' : decide (0 ≤ n) = false := decide_eq_false h0
      clear h0
      go_enter Try.func44, Try.ntmps44
      go_wp2_with fail
      obtain ⟨w4, hw4, a1, a2, a3, a4⟩ := FIN.out false
      refine bodyPost_ret (v := .agg (fixV (w.heap.size + 1 + 1) w.heap.size)) (cell_res (g := w.heap.size + 1) rfl rfl (by rw [hw4] at a1; exact a1) Try.underlying86 rfl (by kernel_rfl)) rfl ⟨rfl, by rw [hw4] at a2; exact a2, by rw [hw4] at a3; exact a3, by rw [hw4] at a4; exact a4⟩
  refine (run (mayN n) rfl).mono ?_
  rintro r w' ⟨h1, h2, h3, h4⟩
  exact ⟨_, _, h1, ⟨h2, h3⟩, h4⟩
end Go.Proofs.Ytdlkkjfbbeffbaa.P
