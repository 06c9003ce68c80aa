import Derived.Test.YtpfbfnbffglbkaaWKept
import Derived.Test.YtpfbfnbffglbkaaPF40
import Derived.Test.YtpfbfnbffglbkaaPF41
/- Blocks gone through, the deepest left first: plain; and what lies in memory meanwhile; no statement of the seat. -/
set_option linter.unusedVariables false
set_option linter.unusedSimpArgs false
namespace Go.Proofs.Ytpfbfnbffglbkaa.P
open Go.RowKit Go.Proofs.YtpfbfnbffglbkaaW.PrintWords Go.Proofs.YtpfbfnbffglbkaaW.PrintLast Go.Proofs.YtpfbfnbffglbkaaW.PrintMore
/-- Whether there is such a block. -/
def isN (n : Nat) (t : Int) : Bool := decide (0 ≤ t) && decide (t < (n : Int))
/-- From a block on: what is seen, and what is left, the deepest first. -/
def vis (nx : Nat → List Int) (n : Nat) : Nat → Nat → List Bool × List Int → List Bool × List Int
  | 0, _, st => st
  | f + 1, i, st =>
    (((nx i).foldl (fun st t => if (isN n t && !(st.1.getD t.toNat false)) = true then vis nx n f t.toNat st else st) (st.1.set i true, st.2)).1,
     ((nx i).foldl (fun st t => if (isN n t && !(st.1.getD t.toNat false)) = true then vis nx n f t.toNat st else st) (st.1.set i true, st.2)).2 ++ [(i : Int)])
def goV (nx : Nat → List Int) (n f : Nat) (st : List Bool × List Int) (t : Int) : List Bool × List Int := if (isN n t && !(st.1.getD t.toNat false)) = true then vis nx n f t.toNat st else st
theorem vis_succ (nx : Nat → List Int) (n f i : Nat) (st : List Bool × List Int) : vis nx n (f + 1) i st = (((nx i).foldl (goV nx n f) (st.1.set i true, st.2)).1, ((nx i).foldl (goV nx n f) (st.1.set i true, st.2)).2 ++ [(i : Int)]) := rfl
def unseen (l : List Bool) : Nat := l.count false
theorem unseen_set (l : List Bool) (i : Nat) (h : l[i]? = some false) : unseen (l.set i true) + 1 = unseen l := by
  unfold unseen
  induction l generalizing i with
  | nil => simp at h
  | cons a l ih =>
    cases i with
    | zero =>
      simp at h
      subst h
      simp
    | succ i =>
      have h' : l[i]? = some false := by simpa using h
      have := ih i h'
      rw [List.set_cons_succ, List.count_cons, List.count_cons]
      omega
/-- What going through blocks keeps. -/
structure VOK (n : Nat) (st r : List Bool × List Int) : Prop where
  len : r.1.length = n
  sum : r.2.length + unseen r.1 = st.2.length + unseen st.1
  mono : ∀ j : Nat, st.1[j]? = some true → r.1[j]? = some true
  less : unseen r.1 ≤ unseen st.1
theorem VOK.refl {n : Nat} {st : List Bool × List Int} (h : st.1.length = n) : VOK n st st := ⟨h, rfl, fun _ h => h, Nat.le_refl _⟩
theorem VOK.trans {n : Nat} {a b c : List Bool × List Int} (h : VOK n a b) (k : VOK n b c) : VOK n a c := ⟨k.len, k.sum.trans h.sum, fun j hj => k.mono j (h.mono j hj), Nat.le_trans k.less h.less⟩
theorem isN_nat {n : Nat} {t : Int} (h : isN n t = true) : ∃ j : Nat, t = (j : Int) ∧ j < n := by
  unfold isN at h
  rw [Bool.and_eq_true, decide_eq_true_eq, decide_eq_true_eq] at h
  exact ⟨t.toNat, by omega, by omega⟩
theorem getD_false {l : List Bool} {i : Nat} (hi : i < l.length) (h : l.getD i false = false) : l[i]? = some false := by
  rw [List.getD_eq_getElem?_getD, List.getElem?_eq_getElem hi] at h
  rw [List.getElem?_eq_getElem hi]
  exact congrArg some h
theorem vis_ok (nx : Nat → List Int) (n : Nat) : ∀ f i (st : List Bool × List Int), st.1.length = n → i < n → st.1[i]? = some false → unseen st.1 ≤ f → VOK n st (vis nx n f i st)
  | 0, i, st, hl, hi, hf, hu => by
    have := unseen_set st.1 i hf
    omega
  | f + 1, i, st, hl, hi, hf, hu => by
    have hs := unseen_set st.1 i hf
    have hgo : ∀ (l : List Int) (a : List Bool × List Int), a.1.length = n → unseen a.1 ≤ f → VOK n a (l.foldl (goV nx n f) a) := by
      intro l
      induction l with
      | nil => intro a ha _; exact VOK.refl ha
      | cons t l ih =>
        intro a ha hua
        have h1 : VOK n a (goV nx n f a t) := by
          unfold goV
          split
          · rename_i hc
            rw [Bool.and_eq_true] at hc
            obtain ⟨j, rfl, hj⟩ := isN_nat hc.1
            rw [Int.toNat_natCast] at hc ⊢
            exact vis_ok nx n f j a ha hj (getD_false (by omega) (by simpa using hc.2)) hua
          · exact VOK.refl ha
        rw [List.foldl_cons]
        exact h1.trans (ih _ h1.len (Nat.le_trans h1.less hua))
    have h0 := hgo (nx i) (st.1.set i true, st.2) (by simpa using hl) (show unseen (st.1.set i true) ≤ f by omega)
    rw [vis_succ]
    refine ⟨h0.len, ?_, fun j hj => h0.mono j ?_, ?_⟩
    · have := h0.sum
      dsimp only at this ⊢
      rw [List.length_append, List.length_singleton]
      omega
    · dsimp only
      by_cases he : i = j
      · subst he
        rw [List.getElem?_set_self (by omega)]
      · rw [List.getElem?_set_ne he]
        exact hj
    · have := h0.less
      dsimp only at this ⊢
      omega
theorem goV_ok (nx : Nat → List Int) (n f : Nat) (st : List Bool × List Int) (hl : st.1.length = n) (hu : unseen st.1 ≤ f) (t : Int) : VOK n st (goV nx n f st t) := by
  unfold goV
  split
  · rename_i hc
    rw [Bool.and_eq_true] at hc
    obtain ⟨j, rfl, hj⟩ := isN_nat hc.1
    rw [Int.toNat_natCast] at hc ⊢
    exact vis_ok nx n f j st hl hj (getD_false (by omega) (by simpa using hc.2)) hu
  · exact VOK.refl hl
/-- The blocks' own variables while they are gone through: the blocks, what is seen, what is left, the function itself. -/
structure OI (w W : World) (n : Nat) (Ab : Option Addr) (cb : Nat) (seen : List Bool) (left : List Int) : Prop where
  bb : W.heap[w.heap.size]? = some (.cells #[.slice Ab n cb] 25 (0, 0))
  sa : W.heap[w.heap.size + 1]? = some (.cells (bools seen).toArray 4 (0, 0))
  sb : W.heap[w.heap.size + 2]? = some (.cells #[.slice (some ⟨w.heap.size + 1, 0, none⟩) n n] 36 (0, 0))
  lb : ∃ v, W.heap[w.heap.size + 3]? = some (.cells #[v] 23 (0, 0)) ∧ W.ownsRow (w.heap.size + 5) 3 1 v left.length (nums .i64 left)
  vb : W.heap[w.heap.size + 4]? = some (.cells #[.func (.func 39) #[] #[.pointer (some ⟨w.heap.size + 2, 0, none⟩), .pointer (some ⟨w.heap.size, 0, none⟩), .pointer (some ⟨w.heap.size + 4, 0, none⟩), .pointer (some ⟨w.heap.size + 3, 0, none⟩)]] 62 (0, 0))
  sl : seen.length = n
  hb : Below w.heap.size w W
theorem OI.lt {w W : World} {n : Nat} {Ab : Option Addr} {cb : Nat} {seen : List Bool} {left : List Int} (h : OI w W n Ab cb seen left) : w.heap.size + 4 < W.heap.size := blk_lt h.vb
/-- One more is seen. -/
theorem OI.see {w W : World} {n : Nat} {Ab : Option Addr} {cb : Nat} {seen : List Bool} {left : List Int} (h : OI w W n Ab cb seen left) (i : Nat) : OI w (W.setCell ⟨w.heap.size + 1, i, none⟩ (.bool true)) n Ab cb (seen.set i true) left := by
  obtain ⟨v, hv, ho⟩ := h.lb
  refine ⟨blk_far h.bb (p := ⟨w.heap.size + 1, i, none⟩) (by show w.heap.size ≠ w.heap.size + 1; omega) _, ?_, blk_far h.sb (p := ⟨w.heap.size + 1, i, none⟩) (by show w.heap.size + 2 ≠ w.heap.size + 1; omega) _, ⟨v, blk_far hv (p := ⟨w.heap.size + 1, i, none⟩) (by show w.heap.size + 3 ≠ w.heap.size + 1; omega) _, ?_⟩, blk_far h.vb (p := ⟨w.heap.size + 1, i, none⟩) (by show w.heap.size + 4 ≠ w.heap.size + 1; omega) _, by rw [List.length_set]; exact h.sl, Below.setCell (p := ⟨w.heap.size + 1, i, none⟩) h.hb (by show w.heap.size ≤ w.heap.size + 1; omega) _⟩
  · have hs := blk_set h.sa i (.bool true)
    rw [List.setIfInBounds_toArray] at hs
    have e : (bools seen).set i (.bool true) = bools (seen.set i true) := by unfold bools; rw [List.map_set]
    rw [e] at hs
    exact hs
  · exact own_setCell ho (p := ⟨w.heap.size + 1, i, none⟩) (fun e => by have := own_base ho (w.heap.size + 1) e.symm; omega) _
/-- The row grew: a block of one's own, and the variable is set. -/
theorem OI.leave {w W w1 : World} {n : Nat} {Ab : Option Addr} {cb : Nat} {seen : List Bool} {left : List Int} (h : OI w W n Ab cb seen left) {v : Value} (hv : W.heap[w.heap.size + 3]? = some (.cells #[v] 23 (0, 0)))
    (v1 : Value) (i : Int) (hb : Below (w.heap.size + 5) W w1) (ho1 : w1.ownsRow (w.heap.size + 5) 3 1 v1 (left ++ [i]).length (nums .i64 (left ++ [i]))) :
    OI w (w1.setCell ⟨w.heap.size + 3, 0, none⟩ v1) n Ab cb seen (left ++ [i]) := by
  have hlt := h.lt
  have k : ∀ b o', b < w.heap.size + 5 → b ≠ w.heap.size + 3 → W.heap[b]? = some o' → (w1.setCell ⟨w.heap.size + 3, 0, none⟩ v1).heap[b]? = some o' := fun b o' hb1 hne hbo =>
    (Below.heap_setCell w1 ⟨w.heap.size + 3, 0, none⟩ v1 b hne).trans ((hb.block b hb1).trans hbo)
  refine ⟨k _ _ (by omega) (by omega) h.bb, k _ _ (by omega) (by omega) h.sa, k _ _ (by omega) (by omega) h.sb, ⟨v1, ?_, ?_⟩, k _ _ (by omega) (by omega) h.vb, h.sl, ?_⟩
  · have h3 : w1.heap[w.heap.size + 3]? = some (.cells #[v] 23 (0, 0)) := (hb.block _ (by omega)).trans hv
    have := blk_set h3 0 v1
    simpa using this
  · exact own_setCell ho1 (p := ⟨w.heap.size + 3, 0, none⟩) (fun e => by have := own_base ho1 (w.heap.size + 3) e.symm; omega) _
  · exact Below.setCell (p := ⟨w.heap.size + 3, 0, none⟩) (h.hb.trans (hb.mono (by omega))) (by show w.heap.size ≤ w.heap.size + 3; omega) _
theorem OI.below {w W w1 : World} {n : Nat} {Ab : Option Addr} {cb : Nat} {seen : List Bool} {left : List Int} (h : OI w W n Ab cb seen left) (hb : Below W.heap.size W w1) : OI w w1 n Ab cb seen left := by
  obtain ⟨v, hv, ho⟩ := h.lb
  exact ⟨blk_below h.bb hb, blk_below h.sa hb, blk_below h.sb hb, ⟨v, blk_below hv hb, pw_own_below ho hb⟩, blk_below h.vb hb, h.sl, h.hb.trans (hb.mono (by have := h.hb.size; omega))⟩
theorem OI.drewN {w W : World} {n : Nat} {Ab : Option Addr} {cb : Nat} {seen : List Bool} {left : List Int} (h : OI w W n Ab cb seen left) (m : Nat) : OI w (W.drewN m) n Ab cb seen left := h.below (pw_below_drewN (Below.refl _ W) m)
end Go.Proofs.Ytpfbfnbffglbkaa.P
/- flow.Order's own function: a walk; no statement of the seat. -/
set_option linter.unusedVariables false
set_option linter.unusedSimpArgs false
namespace Go.Proofs.Ytpfbfnbffglbkaa.P
open Go.RowKit Go.Proofs.YtpfbfnbffglbkaaW.PrintWords Go.Proofs.YtpfbfnbffglbkaaW.PrintLast Go.Proofs.YtpfbfnbffglbkaaW.PrintMore
theorem is_isN (b : List S30) (t : Int) : flow_is.f b t = some (isN b.length t) := by
  unfold flow_is.f isN
  by_cases h : t ≥ 0
  · rw [if_pos h, decide_eq_true (show 0 ≤ t from h), Bool.true_and]
  · rw [if_neg h, decide_eq_false (show ¬ 0 ≤ t from h), Bool.false_and]
theorem is_run (b : List S30) (n : Nat) (hn : b.length = n) (Ab : Option Addr) (cb : Nat) (hcb : n ≤ cb) (W : World) (hB : Kd.C k30 W Ab n b) (t : Int) : Calls Try.prog 40 #[.slice Ab n cb, .int .i64 t] W fun e w' => e = .returned (.bool (isN n t)) ∧ ∃ m, w' = W.drewN m := by
  subst hn
  exact (flow_is.calls Ab cb b t (isN b.length t) W hB hcb (is_isN b t)).mono fun e w' h => ⟨h.1, h.2.out⟩
def nxB (b : List S30) (i : Nat) : List Int := (rd_T30 b (i : Int)).f2
def VP (w : World) (n : Nat) (Ab : Option Addr) (cb : Nat) (r : List Bool × List Int) (e : Ending) (w' : World) : Prop := e = .returned (.tuple #[]) ∧ OI w w' n Ab cb r.1 r.2
theorem bools_get (l : List Bool) (i : Nat) (b : Bool) (h : l[i]? = some b) : (bools l).toArray[i]? = some (.bool b) := by
  unfold bools
  rw [List.getElem?_toArray, List.getElem?_map, h]
  rfl
set_option maxRecDepth 100000 in
set_option maxHeartbeats 8000000 in
theorem visit_run (w : World) (b : List S30) (n : Nat) (hn : b.length = n) (Ab : Option Addr) (cb : Nat) (hcb : n ≤ cb) (hB : Kd.C k30 w Ab n b) (hmx : n ≤ 3600000000000) : ∀ (f : Nat) (W : World) (i : Nat) (st : List Bool × List Int), OI w W n Ab cb st.1 st.2 → i < n → st.1[i]? = some false → unseen st.1 ≤ f → st.2.length + unseen st.1 ≤ n →
    Calls Try.prog 39 #[.int .i64 (i : Int), .pointer (some ⟨w.heap.size + 2, 0, none⟩), .pointer (some ⟨w.heap.size, 0, none⟩), .pointer (some ⟨w.heap.size + 4, 0, none⟩), .pointer (some ⟨w.heap.size + 3, 0, none⟩)] W (VP w n Ab cb (vis (nxB b) n f i st))
  | 0, W, i, st, hO, hi, hf, hu, hl => by
    have := unseen_set st.1 i hf
    omega
  | f + 1, W, i, st, hO, hi, hf, hu, hl => by
    have ih := visit_run w b n hn Ab cb hcb hB hmx f
    have IH := Aside0.mk ih
    have hsn := unseen_set st.1 i hf
    have hO1 := hO.see i
    have hvis := vis_succ (nxB b) n f i st
    have HV := Aside0.mk hvis
    have q0 : W.cell? ⟨w.heap.size + 2, 0, none⟩ = some (.slice (some ⟨w.heap.size + 1, 0, none⟩) n n) := blk_cell hO.sb 0
    have q1 : W.cell? ⟨w.heap.size + 1, i, none⟩ = some (.bool false) := by rw [blk_cell hO.sa i]; exact bools_get _ _ _ hf
    have q2 : W.frozen? ⟨w.heap.size + 1, i, none⟩ = false := blk_frozen hO.sa i
    obtain ⟨W1, hW1⟩ : ∃ W1, W.setCell ⟨w.heap.size + 1, i, none⟩ (.bool true) = W1 := ⟨_, rfl⟩
    rw [hW1] at hO1
    have q3 : W1.cell? ⟨w.heap.size, 0, none⟩ = some (.slice Ab n cb) := blk_cell hO1.bb 0
    obtain ⟨ad, A2, c2, rfl, _, _, q4w, hc2, hC2⟩ := at_T30 hB (i : Int) (by omega) (by omega)
    have q4 := pw_cell_below hO1.hb q4w
    obtain ⟨nl, hnl⟩ : ∃ nl, nl = nxB b i := ⟨_, rfl⟩
    have hnl' : (rd_T30 b (i : Int)).f2 = nl := hnl.symm
    rw [hnl', Int.toNat_natCast] at q4
    rw [hnl'] at hc2 hC2
    have hmx2 := Kd.C_max hC2
    rw [← hnl] at HV
    have HO1 := Aside0.mk hO1
    have HC2 := Aside0.mk (show Kd.C (Kd.int .i64) w A2 nl.length nl from hC2)
    have HB := Aside0.mk hB
    have HW1 := Aside0.mk hW1
    have HI := Aside0.mk (And.intro hu hl)
    have hin : (i : Int) < (n : Int) := by omega
    have SN := Aside0.mk hsn
    clear q4w ih hO1 hvis hnl hnl' hC2 hB hu hl hf hsn hO
    go_enter Try.func39, Try.ntmps39
    go_wp2_with fail
    go_loopw [17] (fun v17 wr => ∃ (k : Nat) (s : List Bool × List Int), v17 = .int .i64 k ∧ k ≤ nl.length ∧ OI w wr n (some ad) cb s.1 s.2 ∧ unseen s.1 ≤ f ∧ s.2.length + 1 + unseen s.1 ≤ n ∧ (nl.drop k).foldl (goV (nxB b) n f) s = nl.foldl (goV (nxB b) n f) (st.1.set i true, st.2)) (fun v17 _ => nl.length - (intOf v17).toNat)
    case atStart => exact ⟨0, (st.1.set i true, st.2), rfl, Nat.zero_le _, HO1.out, by have := SN.out; have := HI.out; dsimp only; omega, by have := SN.out; have := HI.out; dsimp only; omega, rfl⟩
    case round =>
      obtain ⟨k, s, rfl, hk, hO, hu, hl, hgo⟩ := hrel
      have HO := Aside0.mk hO
      have HU := Aside0.mk (And.intro hu hl)
      have HG := Aside0.mk hgo
      clear hO hu hl hgo
      by_cases hlt : k < nl.length
      · have hi1 : (k : Int) < (nl.length : Int) := by omega
        obtain ⟨ad2, rfl, hc⟩ := Kd.at_int (Kd.C_below HC2.out HO.out.hb) (k : Int) (by omega) (by omega)
        rw [Int.toNat_natCast] at hc
        obtain ⟨t, ht⟩ : ∃ t, t = rd nl (k : Int) := ⟨_, rfl⟩
        rw [← ht] at hc
        have hdrop : nl.drop k = t :: nl.drop (k + 1) := by
          rw [List.drop_eq_getElem_cons hlt, ht]
          unfold rd
          rw [Int.toNat_natCast, List.getD_eq_getElem?_getD, List.getElem?_eq_getElem hlt]
          rfl
        have hstep : (nl.drop (k + 1)).foldl (goV (nxB b) n f) (goV (nxB b) n f s t) = nl.foldl (goV (nxB b) n f) (st.1.set i true, st.2) := by
          have := HG.out
          rw [hdrop, List.foldl_cons] at this
          exact this
        have hvk := goV_ok (nxB b) n f s HO.out.sl HU.out.1 t
        have HST := Aside0.mk hstep
        have HVK := Aside0.mk hvk
        have r0 : wr.cell? ⟨w.heap.size, 0, none⟩ = some (.slice (some ad) n cb) := blk_cell HO.out.bb 0
        have r1 : wr.cell? ⟨w.heap.size + 2, 0, none⟩ = some (.slice (some ⟨w.heap.size + 1, 0, none⟩) n n) := blk_cell HO.out.sb 0
        clear ht hdrop hstep hvk
        have his := is_isN b t
        rw [hn] at his
        have HIS := Aside0.mk his
        have HNB := Aside0.mk hn
        clear his hn
        by_cases hin2 : isN n t = true
        · obtain ⟨j, rfl, hj⟩ := isN_nat hin2
          have hj1 : (j : Int) < (n : Int) := by omega
          obtain ⟨sj, hsj⟩ : ∃ sj, s.1[j]? = some sj := ⟨_, List.getElem?_eq_getElem (by rw [HO.out.sl]; exact hj)⟩
          have r2 : wr.cell? ⟨w.heap.size + 1, j, none⟩ = some (.bool sj) := by rw [blk_cell HO.out.sa j]; exact bools_get _ _ _ hsj
          have r3 : wr.cell? ⟨w.heap.size + 4, 0, none⟩ = _ := blk_cell HO.out.vb 0
          have HSJ := Aside0.mk hsj
          have HIN := Aside0.mk hin2
          clear hsj hin2
          cases sj
          · have hgv : goV (nxB b) n f s (j : Int) = vis (nxB b) n f j s := by
              unfold goV
              rw [if_pos]
              · rw [Int.toNat_natCast]
              · rw [HIN.out, Int.toNat_natCast, List.getD_eq_getElem?_getD, HSJ.out]; rfl
            have HGV := Aside0.mk hgv
            clear hgv
            go_wp2_with fail
            refine (is_run b n HNB.out (some ad) cb hcb wr (Kd.C_below HB.out HO.out.hb) (j : Int)).mono ?_
            rintro e w2 ⟨rfl, ⟨m2, rfl⟩⟩
            rw [HIN.out]
            go_wp2_with fail
            refine (IH.out (wr.drewN m2) j s (HO.out.drewN m2) hj HSJ.out HU.out.1 (by have := HU.out.2; omega)).mono ?_
            rintro e w3 ⟨rfl, hO3⟩
            have HO3 := Aside0.mk hO3
            clear hO3
            go_wp2_with fail
            go_roundw
            case rel =>
              have h1 := HVK.out
              have h2 := HST.out
              have h3 := HU.out
              rw [HGV.out] at h1 h2
              exact ⟨k + 1, vis (nxB b) n f j s, by go_num, by omega, HO3.out, Nat.le_trans h1.less h3.1, by have := h1.sum; omega, h2⟩
            case measure => simp only [intOf]; omega
          · have hgv : goV (nxB b) n f s (j : Int) = s := by
              unfold goV
              rw [if_neg]
              rw [HIN.out, Int.toNat_natCast, List.getD_eq_getElem?_getD, HSJ.out]; simp
            have HGV := Aside0.mk hgv
            clear hgv
            go_wp2_with fail
            refine (is_run b n HNB.out (some ad) cb hcb wr (Kd.C_below HB.out HO.out.hb) (j : Int)).mono ?_
            rintro e w2 ⟨rfl, ⟨m2, rfl⟩⟩
            rw [HIN.out]
            go_wp2_with fail
            go_roundw
            case rel =>
              have h2 := HST.out
              rw [HGV.out] at h2
              exact ⟨k + 1, s, by go_num, by omega, HO.out.drewN m2, HU.out.1, HU.out.2, h2⟩
            case measure => simp only [intOf]; omega
        · have hno : isN n t = false := by simpa using hin2
          have hgv : goV (nxB b) n f s t = s := by
            unfold goV
            rw [if_neg]
            rw [hno]; simp
          have HGV := Aside0.mk hgv
          have HNO := Aside0.mk hno
          clear hgv hno hin2
          go_wp2_with fail
          refine (is_run b n HNB.out (some ad) cb hcb wr (Kd.C_below HB.out HO.out.hb) t).mono ?_
          rintro e w2 ⟨rfl, ⟨m2, rfl⟩⟩
          rw [HNO.out]
          go_wp2_with fail
          go_roundw
          case rel =>
            have h2 := HST.out
            rw [HGV.out] at h2
            exact ⟨k + 1, s, by go_num, by omega, HO.out.drewN m2, HU.out.1, HU.out.2, h2⟩
          case measure => simp only [intOf]; omega
      · have hi1 : ¬ (k : Int) < (nl.length : Int) := by omega
        have hfin : s = nl.foldl (goV (nxB b) n f) (st.1.set i true, st.2) := by
          have := HG.out
          rw [List.drop_eq_nil_of_le (by omega)] at this
          exact this
        rw [← hfin] at HV
        have HV2 := Aside0.mk HV.out
        clear HV hfin
        obtain ⟨v, hv, ho⟩ := HO.out.lb
        obtain ⟨A3, c3, rfl⟩ := own_slice ho
        have HV3 := Aside0.mk hv
        have HO3 := Aside0.mk ho
        have hlt5 := HO.out.lt
        have r5 : wr.cell? ⟨w.heap.size + 3, 0, none⟩ = some (.slice A3 s.2.length c3) := blk_cell hv 0
        clear hv ho
        go_wp2_with ((with_reducible refine gate_builtin (b := .append) (xs := #[.tmp 35, .tmp 37]) rfl ?_); at_builtin; refine print_append_num (w0 := wr) (w.heap.size + 5) rfl (.tmp 35) (.tmp 37) 23 3 .i64 8 rfl Try.underlying23 info3 (by decide) (.slice A3 s.2.length c3) s.2 (i : Int) rfl rfl ?aO ?aB ?aS ?aL ?_; (case aO => exact HO3.out); (case aB => exact Below.refl _ _); (case aS => omega); (case aL => have := HU.out.2; omega); intro v1 w1 ho1 hb1 hg1 hat1; obtain ⟨A4, c4, hv4⟩ : ∃ A4 c4, v1 = .slice A4 (s.2.length + 1) c4 := (by obtain ⟨A4, c4, hv4⟩ := own_slice ho1; exact ⟨A4, c4, by rw [hv4]; simp⟩); subst hv4; have f5 : w1.cell? ⟨w.heap.size + 3, 0, none⟩ = some (.slice A3 s.2.length c3) := blk_cell ((hb1.block _ (by omega)).trans HV3.out) 0; have f6 : w1.frozen? ⟨w.heap.size + 3, 0, none⟩ = false := blk_frozen ((hb1.block _ (by omega)).trans HV3.out) 0; have HO1 := Aside0.mk ho1; have HB1 := Aside0.mk hb1; clear ho1 hb1 hg1 hat1)
        go_end0
        have hfin := HO.out.leave HV3.out (.slice A4 (s.2.length + 1) c4) (i : Int) HB1.out HO1.out
        refine ⟨rfl, ?_⟩
        rw [HV2.out]
        exact hfin
end Go.Proofs.Ytpfbfnbffglbkaa.P
/- A row turned about: plain; no statement of the seat. -/
set_option linter.unusedVariables false
set_option linter.unusedSimpArgs false
namespace Go.Proofs.Ytpfbfnbffglbkaa.P
open Go.RowKit Go.Proofs.YtpfbfnbffglbkaaW.PrintWords Go.Proofs.YtpfbfnbffglbkaaW.PrintLast Go.Proofs.YtpfbfnbffglbkaaW.PrintMore
theorem rd_nat (l : List Int) (i : Nat) (h : i < l.length) : rd l (i : Int) = l[i] := by
  unfold rd
  rw [Int.toNat_natCast, List.getD_eq_getElem?_getD, List.getElem?_eq_getElem h]
  rfl
theorem rd_mid (A : List Int) (y : Int) (B : List Int) (i : Int) (hi : i = (A.length : Int)) : rd (A ++ y :: B) i = y := by
  subst hi
  unfold rd
  rw [Int.toNat_natCast, List.getD_eq_getElem?_getD, List.getElem?_append_right (Nat.le_refl _), Nat.sub_self]
  rfl
theorem set_mid (A : List Int) (y z : Int) (B : List Int) (i : Nat) (hi : i = A.length) : (A ++ y :: B).set i z = A ++ z :: B := by
  subst hi
  rw [List.set_append_right _ _ (Nat.le_refl _), Nat.sub_self]
  rfl
theorem rev_mid : ∀ (k : Nat) (A m B : List Int), (A ++ (m ++ B)).length < 4611686018427387904 → m.length < 2 * k → slices_Reverse_int_int.l0 k (A ++ (m ++ B)) (A.length : Int) ((A.length : Int) + (m.length : Int) - 1) = some (A ++ (m.reverse ++ B))
  | 0, A, m, B, hl, hm => by omega
  | k + 1, A, m, B, hl, hm => by
    match m with
    | [] =>
      rw [slices_Reverse_int_int.l0, if_neg (by simp only [List.length_nil]; omega)]
      rfl
    | [y] =>
      rw [slices_Reverse_int_int.l0, if_neg (by simp only [List.length_cons, List.length_nil]; omega)]
      rfl
    | y :: y2 :: r =>
      obtain ⟨m', z, hz⟩ : ∃ m' z, y2 :: r = m' ++ [z] := by
        rcases List.eq_nil_or_concat (y2 :: r) with h | ⟨m', z, h⟩
        · simp at h
        · exact ⟨m', z, by simpa using h⟩
      rw [hz] at hl hm ⊢
      have hlen : (A ++ (y :: (m' ++ [z]) ++ B)).length = A.length + m'.length + 2 + B.length := by simp; omega
      have hml : (y :: (m' ++ [z])).length = m'.length + 2 := by simp
      rw [hlen] at hl
      rw [hml] at hm ⊢
      have e1 : A ++ (y :: (m' ++ [z]) ++ B) = A ++ y :: (m' ++ z :: B) := by simp
      have e2 : ∀ u : Int, A ++ u :: (m' ++ z :: B) = (A ++ u :: m') ++ z :: B := by intro u; simp
      have hj : ((A.length : Int) + ((m'.length + 2 : Nat) : Int) - 1).toNat = (A ++ y :: m').length := by simp; omega
      have hj' : ((A.length : Int) + ((m'.length + 2 : Nat) : Int) - 1).toNat = (A ++ z :: m').length := by simp; omega
      have hrj : rd (A ++ y :: (m' ++ z :: B)) ((A.length : Int) + ((m'.length + 2 : Nat) : Int) - 1) = z := by
        rw [e2]
        exact rd_mid _ _ _ _ (by simp; omega)
      rw [slices_Reverse_int_int.l0, if_pos (by omega), if_pos (by omega), hlen, if_pos (by omega), if_pos (by omega), if_pos (by omega)]
      rw [e1, hrj, rd_mid A y _ _ rfl, Int.toNat_natCast, set_mid A y z _ _ rfl, hj', e2, set_mid _ _ _ _ _ rfl]
      have hw1 : wrap64 ((A.length : Int) + 1) = ((A ++ [z]).length : Int) := by unfold wrap64; simp; omega
      have hw2 : wrap64 ((A.length : Int) + ((m'.length + 2 : Nat) : Int) - 1 - 1) = ((A ++ [z]).length : Int) + (m'.length : Int) - 1 := by unfold wrap64; simp; omega
      have e3 : (A ++ z :: m') ++ y :: B = (A ++ [z]) ++ (m' ++ y :: B) := by simp
      rw [hw1, hw2, e3, rev_mid k (A ++ [z]) m' (y :: B) (by simp; omega) (by omega)]
      simp
theorem reverse_is (l : List Int) (hl : l.length < 4611686018427387904) : slices_Reverse_int_int.f (l.length + 1) l = some l.reverse := by
  have h := rev_mid (l.length + 1) [] l [] (by simpa using hl) (by omega)
  unfold slices_Reverse_int_int.f
  rw [show wrap64 ((l.length : Int) - 1) = (([] : List Int).length : Int) + (l.length : Int) - 1 by unfold wrap64; simp; omega]
  simpa using h
/-- Where each stands in the order. -/
def placeG : List Int → Nat → List Int → List Int
  | [], _, pl => pl
  | x :: l, i, pl => placeG l (i + 1) (pl.set x.toNat (i : Int))
end Go.Proofs.Ytpfbfnbffglbkaa.P
