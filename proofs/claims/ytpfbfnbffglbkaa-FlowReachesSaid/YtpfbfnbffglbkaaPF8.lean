/- Ytpfbfnbffglbkaa: what Go functions come to, and that they do: walks, printed by a program of this session or typed by hand; no statement of the seat stands here. -/
import Derived.Test.YtpfbfnbffglbkaaP0
import Derived.Test.YtpfbfnbffglbkaaPF21
import Derived.Test.YtpfbfnbffglbkaaPF20
import Derived.Test.YtpfbfnbffglbkaaPF13
import Derived.Test.YtpfbfnbffglbkaaFlowO
import Derived.Test.YtpfbfnbffglbkaaFlowR
import Derived.Test.YtpfbfnbffglbkaaPF13
namespace Go.Proofs.Ytpfbfnbffglbkaa.P
open Go.RowKit Go.Proofs.YtpfbfnbffglbkaaW.PrintWords Go.Proofs.YtpfbfnbffglbkaaW.PrintLast Go.Proofs.YtpfbfnbffglbkaaW.PrintMore
attribute [local go_sem] max2_int min2_int max_two min_two max_three min_three max_four min_four   -- for this text's walks alone
set_option linter.unusedVariables false
set_option linter.unusedSimpArgs false


/-! ### pianolalaw08_FlowReaches: function 8 -/
-- IMPORT Derived.Test.YtpfbfnbffglbkaaFlowR
-- IMPORT Derived.Test.YtpfbfnbffglbkaaFlowO
-- IMPORT Derived.Test.YtpfbfnbffglbkaaPF13
def pianolalaw08_FlowReaches.f (l0 : List S30) : Option Bool := if l0.length ≤ 3600000000000 then some true else none
attribute [local go_sem] Oper.semAt_some
def ReaP (w : World) (e : Ending) (w' : World) : Prop := e = .returned (.bool true) ∧ Below w.heap.size w w'
set_option maxRecDepth 100000 in
set_option maxHeartbeats 4000000 in
theorem reaches_walk (A0 : Option Addr) (c0 : Nat) (l0 : List S30) (n : Nat) (hn : l0.length = n) (w : World) (hr0 : Kd.C k30 w A0 n l0) (hc0 : n ≤ c0) (hmx : n ≤ 3600000000000) :
    Calls Try.prog 8 #[.slice A0 n c0] w (ReaP w) := by
  have HR0 := Aside0.mk hr0
  have HN := Aside0.mk hn
  have hmk := print_make_of (P := Try.prog) 36 4 (.bool false) 1 Try.underlying36 info4 rfl (by decide) n (by omega)
  have hnil : ∀ (b : Nat) (W : World), (binOp .eql 43 (.func (.func 44) #[] #[.pointer (some ⟨b, 0, none⟩)]) .nilFunc).run Try.prog W = .ok (.bool false) W := fun _ _ => by kernel_rfl
  clear hr0 hn
  by_cases hbig : 200 < n
  · have hb1 : (200 : Int) < (n : Int) := by omega
    refine (callsIn_wide (n := 4)).1 ?_
    refine callsIn_of_wp_marks Try.func8 rfl trivial ?_ rfl
    simp only [Try.ntmps8, List.size_toArray, List.length_cons, List.length_nil, Nat.reduceAdd, Nat.reduceSub, Array.replicate_succ, Array.replicate_zero, List.push_toArray, List.append_toArray, List.nil_append, List.cons_append]
    refine wpIn_wide.2 ?_
    go_wp2_with (go_at_call 13; refine (pianolalaw08_lives.calls true _ rfl).mono ?_; rintro e w1 ⟨rfl, hb⟩; have h2 : w1.heap[w.heap.size]? = some (.cells #[.bool false] 4 (0, 0)) := blk_below (blk_new w _) hb; have f1 : w1.cell? ⟨w.heap.size, 0, none⟩ = some (.bool false) := blk_cell h2 0; have f2 : w1.frozen? ⟨w.heap.size, 0, none⟩ = false := blk_frozen h2 0; have H2 := Aside0.mk h2; have HB := Aside0.mk hb; clear h2 hb)
    have hs := blk_set H2.out 0 (.bool true)
    have f3 : (w1.setCell ⟨w.heap.size, 0, none⟩ (.bool true)).cell? ⟨w.heap.size, 0, none⟩ = some (.bool true) := blk_cell hs 0
    refine ⟨.bool true, by simp [results, Try.f8, go_sem, f3], rfl, Below.setCell (p := ⟨w.heap.size, 0, none⟩) ((below_alloc (Below.refl _ w) (.cells #[.bool false] 4)).trans (HB.out.mono (by rw [World.size_alloc]; omega))) (Nat.le_refl _) _⟩
  · have hb1 : ¬ (200 : Int) < (n : Int) := by omega
    refine (callsIn_wide (n := 4)).1 ?_
    refine callsIn_of_wp_marks Try.func8 rfl trivial ?_ rfl
    simp only [Try.ntmps8, List.size_toArray, List.length_cons, List.length_nil, Nat.reduceAdd, Nat.reduceSub, Array.replicate_succ, Array.replicate_zero, List.push_toArray, List.append_toArray, List.nil_append, List.cons_append]
    refine wpIn_wide.2 ?_
    obtain ⟨W0, hW0⟩ : ∃ W0, w.alloc (.cells #[.bool false] 4) = W0 := ⟨_, rfl⟩
    have c2 : W0.heap[w.heap.size]? = some (.cells #[.bool false] 4 (0, 0)) := by rw [← hW0]; exact blk_new w _
    have hb0 : Below w.heap.size w W0 := by rw [← hW0]; exact below_alloc (Below.refl _ w) _
    have hz0 : w.heap.size < W0.heap.size := by rw [← hW0, World.size_alloc]; omega
    have HC2 := Aside0.mk c2
    have HB0 := Aside0.mk hb0
    have HRR := Aside0.mk (reached_run l0 (by rw [HN.out]; exact hmx) (n + 1) (by rw [HN.out]; omega))
    obtain ⟨rr, hrr⟩ : ∃ rr, (walkB l0 (-1)).1 = rr := ⟨_, rfl⟩
    rw [hrr] at HRR
    have HE := Aside0.mk hrr
    clear c2 hb0 hrr
    have hcR := flow_Reached.calls (n + 1) A0 c0 l0 rr W0 (by rw [HN.out]; exact Kd.C_below HR0.out HB0.out) (by rw [HN.out]; exact hc0) HRR.out
    rw [HN.out] at hcR
    have HCR := Aside0.mk hcR
    clear hcR
    go_upto_region 3 with (fail)
    go_wp2_with fail
    refine HCR.out.mono ?_
    rintro e w1 ⟨v3, rfl, hR3, hB1⟩
    obtain ⟨A3, c3, rfl⟩ := Kd.R_slice hR3
    have hrl : rr.length = n := by rw [← HE.out, walkB_len, HN.out]
    rw [hrl] at hR3 ⊢
    have HR3 := Aside0.mk hR3
    have HB1 := Aside0.mk hB1
    have HRL := Aside0.mk hrl
    clear hR3 hB1 hrl HCR
    go_upto_region 4 with (fail)
    obtain ⟨W1, hW1⟩ : ∃ W1, w1.alloc (.cells #[.slice A3 n c3] 36) = W1 := ⟨_, rfl⟩
    have c3b : W1.heap[w1.heap.size]? = some (.cells #[.slice A3 n c3] 36 (0, 0)) := by rw [← hW1]; exact blk_new w1 _
    have hb1' : Below w1.heap.size w1 W1 := by rw [← hW1]; exact below_alloc (Below.refl _ w1) _
    have hz1 : W1.heap.size = w1.heap.size + 1 := by rw [← hW1, World.size_alloc]
    rw [hW1]
    have HC3 := Aside0.mk c3b
    have HB2 := Aside0.mk hb1'
    have HZ1 := Aside0.mk hz1
    clear c3b hb1' hz1 hW1 hW0
    go_wp2_with fail
    refine ((callsIn_wide (n := 4)).1 (beh_in 4 A0 n c0 _)).mono ?_
    rintro e w2 ⟨rfl, rfl⟩
    obtain ⟨W2, hW2⟩ : ∃ W2, W1.alloc (.cells #[.slice A0 n c0] 25) = W2 := ⟨_, rfl⟩
    have bx : Boxed W2 W1.heap.size 25 (.slice A0 n c0) := by rw [← hW2]; exact Boxed.new W1 _ _
    have hb3 : Below W1.heap.size W1 W2 := by rw [← hW2]; exact below_alloc (Below.refl _ W1) _
    have hz2 : W2.heap.size = W1.heap.size + 1 := by rw [← hW2, World.size_alloc]
    rw [hW2]
    have BX := Aside0.mk bx
    have HB3 := Aside0.mk hb3
    have HZ2 := Aside0.mk hz2
    clear bx hb3 hz2 hW2
    go_wp2_with (go_at_call 13; refine (pianolalaw08_lives.calls true _ rfl).mono ?_; rintro e w3 ⟨rfl, hb⟩; have g1 : w3.cell? ⟨w1.heap.size, 0, none⟩ = some (.slice A3 n c3) := blk_cell (blk_below (blk_below HC3.out HB3.out) hb) 0; have HB4 := Aside0.mk hb; clear hb)
    obtain ⟨W4, hW4⟩ : ∃ W4, (w3.alloc (.cells (madeCells #[.bool false] n) 4)).alloc (.cells #[.slice (some ⟨w3.heap.size, 0, none⟩) n n] 36) = W4 := ⟨_, rfl⟩
    have hz4 : W4.heap.size = w3.heap.size + 2 := by rw [← hW4, World.size_alloc, World.size_alloc]
    have hb5 : Below w3.heap.size w3 W4 := by rw [← hW4]; exact below_alloc (below_alloc (Below.refl _ w3) _) _
    have hlo : w1.heap.size + 2 ≤ w3.heap.size := by have := HB4.out.size; have := HZ2.out; have := HZ1.out; omega
    have hll : W0.heap.size ≤ w1.heap.size := HB1.out.size
    obtain ⟨cur, hcur, hcell⟩ : ∃ cur : Array Value, (∀ ad, A3 = some ad → w1.heap[ad.block]? = some (.cells cur 4 (0, 0)) ∧ ad.off = 0) ∧ ∀ j, j < n → cur[j]? = some (.bool (rbB rr j)) := by
      have ho := Kd.own_of_R HR3.out
      rcases ho.2 with ⟨e, h0⟩ | ⟨g, cap, cu, e, _, hg, _, _, _, htk⟩
      · simp only [Value.slice.injEq] at e
        refine ⟨#[], fun ad he => ?_, fun j hj => ?_⟩
        · rw [e.1] at he; cases he
        · have := HRL.out; omega
      · simp only [Value.slice.injEq] at e
        refine ⟨cu, fun ad he => ?_, fun j hj => ?_⟩
        · rw [e.1] at he
          injection he with he
          subst he
          exact ⟨hg, rfl⟩
        · rw [Nat.mul_one, HRL.out] at htk
          have h1 : (cu.toList.take n)[j]? = (encs Value.bool rr)[j]? := by rw [htk]
          rw [List.getElem?_take, if_pos hj] at h1
          rw [← Array.getElem?_toList, h1]
          show (rr.map Value.bool)[j]? = _
          rw [List.getElem?_map, List.getElem?_eq_getElem (by rw [HRL.out]; exact hj)]
          unfold rbB
          rw [List.getD_eq_getElem?_getD, List.getElem?_eq_getElem (by rw [HRL.out]; exact hj)]
          rfl
    have hAlt : ∀ ad, A3 = some ad → ad.block < w1.heap.size := fun ad e => blk_lt (hcur ad e).1
    have hB14 : Below w1.heap.size w1 W4 := below_step (below_step (below_step (below_step (Below.refl _ _) HB2.out) HB3.out) HB4.out) hb5
    have hwall : Below w.heap.size w W4 := below_step (below_step HB0.out HB1.out) hB14
    have hm : madeCells #[Value.bool false] n = (bools (List.replicate n false)).toArray := by
      apply Array.ext'
      show (madeCells #[Value.bool false] n).toList = bools (List.replicate n false)
      rw [toList_madeCells_one]
      unfold bools
      rw [List.map_replicate]
    have hRB : RB w W4 w.heap.size w1.heap.size (w3.heap.size + 1) w3.heap.size n c3 A3 cur (byOf rr n []) := by
      refine ⟨blk_below (blk_below HC2.out HB1.out) hB14, blk_below HC3.out (below_step (below_step HB3.out HB4.out) hb5), ?_, fun ad e => blk_below (hcur ad e).1 hB14, ?_, hwall⟩
      · rw [← hW4]
        have := blk_new (w3.alloc (.cells (madeCells #[.bool false] n) 4)) (.cells #[.slice (some ⟨w3.heap.size, 0, none⟩) n n] 36)
        rw [World.size_alloc] at this
        exact this
      · rw [← hW4]
        have := blk_alloc (blk_new w3 (.cells (madeCells #[.bool false] n) 4)) (.cells #[.slice (some ⟨w3.heap.size, 0, none⟩) n n] 36)
        rw [hm] at this
        rw [hm]
        exact this
    have b2 : Boxed W4 W1.heap.size 25 (.slice A0 n c0) := blk_below (blk_below BX.out HB4.out) hb5
    rw [hW4]
    have HRB := Aside0.mk hRB
    have HALT := Aside0.mk hAlt
    have HCELL := Aside0.mk hcell
    have HW := Aside0.mk hwall
    have HAD := Aside0.mk (fun ad e => (hcur ad e).2)
    have HZ4 := Aside0.mk hz4
    obtain ⟨xs, hxs⟩ : ∃ xs, behR l0 n n 0 = xs := ⟨_, rfl⟩
    have HXS := Aside0.mk hxs
    have hclo : ∀ i t : Nat, i < n → t < n → (t : Int) ∈ nxB l0 i → rbB rr i = true → rbB rr t = true := by
      intro i t hi ht hm hri
      have hO := ordOK_B l0 (by rw [HN.out]; omega)
      rw [HE.out] at hO
      have s : ∀ j : Nat, j < n → (rbB rr j = true ↔ (j : Int) ∈ ordB l0) := by
        intro j hj
        rw [← hO.seen j (by rw [HN.out]; exact hj)]
        unfold rbB
        rw [List.getD_eq_getElem?_getD]
        cases h : rr[j]? <;> simp
      exact (s t ht).2 ((hO.reach t).2 (Rch.step ((hO.reach i).1 ((s i hi).1 hri)) (by rw [HN.out]; exact ht) hm))
    have HCLO := Aside0.mk hclo
    clear hclo
    clear hRB hAlt hcell hcur hm hB14 hb5 hW4 hnil hmk g1 HRR hxs hz4
    refine (wpIn_wide (n := 4)).1 ?_
    refine wpIn_rangeFunc_ownH rfl (by omega) (gf := 44) (lb := #[.pointer (some ⟨W1.heap.size, 0, none⟩)]) rfl trivial (enters_of Try.func44 (by kernel_rfl) rfl)
      (beh_stops (4 - 1) (by omega) W1.heap.size l0 n HN.out hmx A0 c0 hc0 xs HXS.out w HR0.out W4 HW.out b2) (fun h k => KeepBox.t h k) (fun W l o o' => KeepBox.b (by have := HW.out.size; omega) (by have := HZ4.out; have := HZ1.out; omega) W l o o') (Below.refl _ _) (fun _ => rfl)
      (RI w w.heap.size w1.heap.size (w3.heap.size + 1) W1.heap.size w3.heap.size n c3 c0 A0 A3 cur rr xs) (fun _ _ _ => False) (RI.kept _ _ _ _ _ _ _ _ _ _ _ _ _ _ (by have := HW.out.size; omega)) (fun _ _ _ _ _ hs _ _ => hs) ⟨HRB.out, b2⟩
      (fun x a' W => a' = { tmps := #[.slice A0 n c0, undef, .pointer (some ⟨w.heap.size, 0, none⟩), .pointer (some ⟨w1.heap.size, 0, none⟩), .func (.func 44) #[] #[.pointer (some ⟨W1.heap.size, 0, none⟩)], .pointer (some ⟨w3.heap.size + 1, 0, none⟩), .int .i64 x.1.1, .int .i64 x.1.2, undef, .slice A0 n c0, .int .i64 n, .bool false, undef, .slice A0 n c0, .slice A3 n c3, .slice A0 n c0, .func (.func 44) #[] #[.pointer (some ⟨W1.heap.size, 0, none⟩)], .bool true, .bool false, .bool false, .slice A3 n c3, .int .i64 n, .slice A0 n c0, .int .i64 n, .bool false, .bool false, .bool false, .func (.func 44) #[] #[.pointer (some ⟨W1.heap.size, 0, none⟩)], .bool false, .bool false, .slice A0 n c0, .int .i64 n, .slice (some ⟨w3.heap.size, 0, none⟩) n n, .func (.func 44) #[] #[.pointer (some ⟨W1.heap.size, 0, none⟩)], .int .i64 x.1.1, .int .i64 x.1.2, undef, undef, undef, undef, undef, undef, undef, undef, undef, undef, undef, undef, undef, undef, undef, undef, undef, undef, undef, undef, undef, undef, undef, undef, undef, undef, undef, undef, undef, undef, undef, undef, undef, undef, undef, undef, undef, undef, undef, undef, undef, undef, undef, undef, undef, undef, undef, undef, undef, undef, undef, undef, undef, undef, undef], defers := [] }) (fun x a' => (by rintro _ W W' row h _ _; exact h)) ?assign ?body ?done ?stop
    case assign =>
      rintro l pre x W K hi hK
      gi_wp2
      exact hK _ _ ((KeepsOthers.refl _).from _) ⟨Below.refl _ _, rfl⟩ hi rfl
    case body =>
      rintro l pre x a' W hl hloop hi rfl hlt
      rcases x with ⟨⟨p, q⟩, hp⟩
      have hbm := behR_in l0 n n 0 (p, q) (by rw [HXS.out]; exact hp)
      obtain ⟨t, rfl, ht⟩ := isN_nat hbm.2.2
      obtain ⟨i, rfl⟩ : ∃ i : Nat, p = (i : Int) := ⟨p.toNat, by have := hbm.1; dsimp only at this; omega⟩
      have hin : i < n := by have := hbm.2.1; dsimp only at this; omega
      have hedge : (t : Int) ∈ nxB l0 i := by
        obtain ⟨j, _, _, e1, e2, _⟩ := (behR_mem l0 n n 0 ((i : Int), (t : Int))).1 (by rw [HXS.out]; exact hp)
        dsimp only at e1 e2
        have : j = i := by omega
        subst this
        exact e2
      have hcl : rbB rr i = true → rbB rr t = true := fun h => HCLO.out i t hin ht hedge h
      dsimp only
      obtain ⟨g3, hg3⟩ : ∃ g3, A3 = some ⟨g3, 0, none⟩ := by
        have ho := Kd.own_of_R HR3.out
        rcases ho.2 with ⟨e, h0⟩ | ⟨g, cap, cu, e, _⟩
        · simp only [Value.slice.injEq] at e
          have := HRL.out
          omega
        · simp only [Value.slice.injEq] at e
          exact ⟨g, e.1⟩
      have hg3lt := HALT.out _ hg3
      have hr3 := hi.1.r3 _ hg3
      have hc3 := hi.1.c3
      rw [hg3] at hc3
      have ki : W.cell? ⟨g3, i, none⟩ = some (.bool (rbB rr i)) := (blk_cell hr3 i).trans (HCELL.out i hin)
      have kt : W.cell? ⟨g3, t, none⟩ = some (.bool (rbB rr t)) := (blk_cell hr3 t).trans (HCELL.out t ht)
      have k3 : W.cell? ⟨w1.heap.size, 0, none⟩ = some (.slice (some ⟨g3, 0, none⟩) n c3) := blk_cell hc3 0
      have k5 : W.cell? ⟨w3.heap.size + 1, 0, none⟩ = some (.slice (some ⟨w3.heap.size, 0, none⟩) n n) := blk_cell hi.1.c5 0
      obtain ⟨bys, hbys⟩ : ∃ bys, byOf rr n (pre.map (·.1)) = bys := ⟨_, rfl⟩
      have hbl : bys.length = n := by rw [← hbys]; exact byOf_len _ _ _
      have hi1 := hi.1
      rw [hbys] at hi1
      have kb : W.cell? ⟨w3.heap.size, t, none⟩ = some (.bool (rbB bys t)) := (blk_cell hi1.a5 t).trans (bools_get _ _ _ (by unfold rbB; rw [List.getD_eq_getElem?_getD, List.getElem?_eq_getElem (by omega)]; rfl))
      have kf : W.frozen? ⟨w3.heap.size, t, none⟩ = false := blk_frozen hi1.a5 t
      have t0 : (0 : Int) ≤ (t : Int) := by omega
      have t1 : (t : Int) < (n : Int) := by omega
      have i0 : (0 : Int) ≤ (i : Int) := by omega
      have i1 : (i : Int) < (n : Int) := by omega
      have hi1d := hi1.below (below_drew (Below.refl _ W))
      have d5 : W.drew.cell? ⟨w3.heap.size + 1, 0, none⟩ = some (.slice (some ⟨w3.heap.size, 0, none⟩) n n) := k5
      have d3 : W.drew.cell? ⟨w1.heap.size, 0, none⟩ = some (.slice (some ⟨g3, 0, none⟩) n c3) := k3
      have hput := hi1d.put (by have := HW.out.size; omega) (by omega) (by omega) (fun ad e => by have := HALT.out ad e; omega) (by omega) t (rbB bys t || rbB rr i)
      have hput2 : RI w w.heap.size w1.heap.size (w3.heap.size + 1) W1.heap.size w3.heap.size n c3 c0 A0 A3 cur rr xs (pre ++ [⟨((i : Int), (t : Int)), hp⟩]) (W.drew.setCell ⟨w3.heap.size, t, none⟩ (.bool (rbB bys t || rbB rr i))) := by
        refine ⟨?_, (Below.heap_setCell W.drew ⟨w3.heap.size, t, none⟩ _ W1.heap.size (by have := HZ1.out; show W1.heap.size ≠ w3.heap.size; omega)).trans hi.2⟩
        have e : byOf rr n ((pre ++ [(⟨((i : Int), (t : Int)), hp⟩ : { x : Int × Int // x ∈ xs })]).map (fun y => y.1)) = bys.set t (rbB bys t || rbB rr i) := by
          rw [List.map_append, byOf, List.foldl_append, ← byOf, hbys]
          show byStep rr bys ((i : Int), (t : Int)) = _
          unfold byStep
          rw [Int.toNat_natCast, Int.toNat_natCast]
        rw [e]
        exact hput
      have HPUT := Aside0.mk hput2
      have HI := Aside0.mk hi
      obtain ⟨bi, hbi⟩ : ∃ bi, rbB rr i = bi := ⟨_, rfl⟩
      obtain ⟨bt, hbt⟩ : ∃ bt, rbB rr t = bt := ⟨_, rfl⟩
      obtain ⟨bb, hbb⟩ : ∃ bb, rbB bys t = bb := ⟨_, rfl⟩
      rw [hbi, hbt] at hcl
      rw [hbi] at ki
      rw [hbt] at kt
      rw [hbb] at kb
      rw [hbi, hbb] at HPUT
      have HH := Aside0.mk (And.intro hl (And.intro hg3 hg3lt))
      clear hi hi1 hput hput2 hbys hbl hbi hbt hbb hc3 hr3 hbm hedge hg3 hg3lt hloop hlt hl
      cases bi with
      | false =>
        clear hcl kt
        have di : W.drew.cell? ⟨g3, i, none⟩ = some (.bool false) := ki
        gi_wp2
        cases bb with
        | false =>
          have db : W.drew.cell? ⟨w3.heap.size, t, none⟩ = some (.bool false) := kb
          refine wpIn_region_calm (fun f => trivial) (by kernel_rfl) (by rfl) (S := fun W' => W'.cell? ⟨w3.heap.size + 1, 0, none⟩ = some (.slice (some ⟨w3.heap.size, 0, none⟩) n n) ∧ W'.cell? ⟨w1.heap.size, 0, none⟩ = some (.slice (some ⟨g3, 0, none⟩) n c3) ∧ W'.cell? ⟨g3, i, none⟩ = some (.bool false)) ⟨d5, d3, di⟩ (fun hHeld => ?_)
          refine wpAnyH_take (i := 0) (v := .slice (some ⟨w3.heap.size, 0, none⟩) n n) rfl (by kernel_rfl) (by kernel_rfl) (by kernel_rfl) (fun _ _ _ h => h) (Or.inl ⟨by rfl, fun w hSw => by (try dsimp only at hSw); obtain ⟨z1, z2, z3⟩ := hSw; go_simp⟩) (by assumption) ?_
          simp only [Act.put, List.setIfInBounds_toArray, List.set_cons_zero, List.set_cons_succ]
          refine wpAnyH_take (i := 1) (v := .int .i64 (t : Int)) rfl (by kernel_rfl) (by kernel_rfl) (by kernel_rfl) (fun _ _ _ h => h) (Or.inl ⟨by rfl, fun w hSw => by (try dsimp only at hSw); obtain ⟨z1, z2, z3⟩ := hSw; go_simp⟩) (by assumption) ?_
          simp only [Act.put, List.setIfInBounds_toArray, List.set_cons_zero, List.set_cons_succ]
          refine wpAnyH_take (i := 2) (v := .slice (some ⟨w3.heap.size, 0, none⟩) n n) rfl (by kernel_rfl) (by kernel_rfl) (by kernel_rfl) (fun _ _ _ h => h) (Or.inl ⟨by rfl, fun w hSw => by (try dsimp only at hSw); obtain ⟨z1, z2, z3⟩ := hSw; go_simp⟩) (by assumption) ?_
          simp only [Act.put, List.setIfInBounds_toArray, List.set_cons_zero, List.set_cons_succ]
          refine wpAnyH_take (i := 3) (v := .int .i64 (t : Int)) rfl (by kernel_rfl) (by kernel_rfl) (by kernel_rfl) (fun _ _ _ h => h) (Or.inl ⟨by rfl, fun w hSw => by (try dsimp only at hSw); obtain ⟨z1, z2, z3⟩ := hSw; go_simp⟩) (by assumption) ?_
          simp only [Act.put, List.setIfInBounds_toArray, List.set_cons_zero, List.set_cons_succ]
          refine wpAnyH_take (i := 4) (v := .pointer (some ⟨w3.heap.size, t, none⟩)) rfl (by kernel_rfl) (by kernel_rfl) (by kernel_rfl) (fun _ _ _ h => h) (Or.inl ⟨by rfl, fun w hSw => by (try dsimp only at hSw); obtain ⟨z1, z2, z3⟩ := hSw; go_simp⟩) (by assumption) ?_
          simp only [Act.put, List.setIfInBounds_toArray, List.set_cons_zero, List.set_cons_succ]
          refine wpAnyH_ready (rs := [5]) (by kernel_rfl) (by simp) ?_
          refine AllReadyH.cons rfl (fun K hK => ?_) AllReadyH.nil
          go_simp
          refine hK.out _ _ ⟨d5, d3, di⟩ (fun hHeld2 => ?_)
          clear hK K
          try simp only [Act.put, List.setIfInBounds_toArray, List.set_cons_zero, List.set_cons_succ]
          refine wpAnyH_take (i := 6) (v := .bool false) rfl (by kernel_rfl) (by kernel_rfl) (by kernel_rfl) (fun _ _ _ h => h) (Or.inl ⟨by rfl, fun w hSw => by (try dsimp only at hSw); obtain ⟨z1, z2, z3⟩ := hSw; go_simp⟩) (by assumption) ?_
          simp only [Act.put, List.setIfInBounds_toArray, List.set_cons_zero, List.set_cons_succ]
          refine wpAnyH_take (i := 7) (v := .slice (some ⟨g3, 0, none⟩) n c3) rfl (by kernel_rfl) (by kernel_rfl) (by kernel_rfl) (fun _ _ _ h => h) (Or.inl ⟨by rfl, fun w hSw => by (try dsimp only at hSw); obtain ⟨z1, z2, z3⟩ := hSw; go_simp⟩) (by assumption) ?_
          simp only [Act.put, List.setIfInBounds_toArray, List.set_cons_zero, List.set_cons_succ]
          refine wpAnyH_take (i := 8) (v := .int .i64 (i : Int)) rfl (by kernel_rfl) (by kernel_rfl) (by kernel_rfl) (fun _ _ _ h => h) (Or.inl ⟨by rfl, fun w hSw => by (try dsimp only at hSw); obtain ⟨z1, z2, z3⟩ := hSw; go_simp⟩) (by assumption) ?_
          simp only [Act.put, List.setIfInBounds_toArray, List.set_cons_zero, List.set_cons_succ]
          refine wpAnyH_take (i := 9) (v := .pointer (some ⟨g3, i, none⟩)) rfl (by kernel_rfl) (by kernel_rfl) (by kernel_rfl) (fun _ _ _ h => h) (Or.inl ⟨by rfl, fun w hSw => by (try dsimp only at hSw); obtain ⟨z1, z2, z3⟩ := hSw; go_simp⟩) (by assumption) ?_
          simp only [Act.put, List.setIfInBounds_toArray, List.set_cons_zero, List.set_cons_succ]
          refine wpAnyH_take (i := 10) (v := .bool false) rfl (by kernel_rfl) (by kernel_rfl) (by kernel_rfl) (fun _ _ _ h => h) (Or.inl ⟨by rfl, fun w hSw => by (try dsimp only at hSw); obtain ⟨z1, z2, z3⟩ := hSw; go_simp⟩) (by assumption) ?_
          simp only [Act.put, List.setIfInBounds_toArray, List.set_cons_zero, List.set_cons_succ]
          refine wpAnyH_take (i := 11) (v := .bool false) rfl (by kernel_rfl) (by kernel_rfl) (by kernel_rfl) (fun _ _ _ h => h) (Or.inl ⟨by rfl, fun w hSw => by (try dsimp only at hSw); obtain ⟨z1, z2, z3⟩ := hSw; go_simp⟩) (by assumption) ?_
          simp only [Act.put, List.setIfInBounds_toArray, List.set_cons_zero, List.set_cons_succ]
          refine wpAnyH_take (i := 12) (v := .pointer (some ⟨w3.heap.size, t, none⟩)) rfl (by kernel_rfl) (by kernel_rfl) (by kernel_rfl) (fun _ _ _ h => h) (Or.inl ⟨by rfl, fun w hSw => by (try dsimp only at hSw); obtain ⟨z1, z2, z3⟩ := hSw; go_simp⟩) (by assumption) ?_
          simp only [Act.put, List.setIfInBounds_toArray, List.set_cons_zero, List.set_cons_succ]
          refine wpAnyH_ready (rs := [13]) (by kernel_rfl) (by simp) ?_
          refine AllReadyH.cons rfl (fun K hK => ?_) AllReadyH.nil
          go_simp
          refine hK.out _ _ ?hS (fun hHeld2 => ?_)
          case hS => exact ⟨(pw_setCell_far W.drew w3.heap.size (w3.heap.size + 1) t 0 _ (by omega)).trans d5, (pw_setCell_far W.drew w3.heap.size w1.heap.size t 0 _ (by omega)).trans d3, (pw_setCell_far W.drew w3.heap.size g3 t i _ (by have := HH.out.2.2; omega)).trans di⟩
          refine wpAnyH_done (by kernel_rfl) ?_ _
          exact ⟨((KeepsOthers.drew W).trans (KeepsOthers.setCell W.drew _ _)).from _, ⟨Below.setCell (p := ⟨w3.heap.size, t, none⟩) (below_drew (Below.refl _ W)) (by have := HW.out.size; show w.heap.size ≤ w3.heap.size; omega) _, Below.heap_setCell W.drew ⟨w3.heap.size, t, none⟩ _ W1.heap.size (by have := HZ1.out; show W1.heap.size ≠ w3.heap.size; omega)⟩, HPUT.out⟩
        | true =>
          have db : W.drew.cell? ⟨w3.heap.size, t, none⟩ = some (.bool true) := kb
          refine wpIn_region_calm (fun f => trivial) (by kernel_rfl) (by rfl) (S := fun W' => W'.cell? ⟨w3.heap.size + 1, 0, none⟩ = some (.slice (some ⟨w3.heap.size, 0, none⟩) n n) ∧ W'.cell? ⟨w1.heap.size, 0, none⟩ = some (.slice (some ⟨g3, 0, none⟩) n c3) ∧ W'.cell? ⟨g3, i, none⟩ = some (.bool false)) ⟨d5, d3, di⟩ (fun hHeld => ?_)
          refine wpAnyH_take (i := 0) (v := .slice (some ⟨w3.heap.size, 0, none⟩) n n) rfl (by kernel_rfl) (by kernel_rfl) (by kernel_rfl) (fun _ _ _ h => h) (Or.inl ⟨by rfl, fun w hSw => by (try dsimp only at hSw); obtain ⟨z1, z2, z3⟩ := hSw; go_simp⟩) (by assumption) ?_
          simp only [Act.put, List.setIfInBounds_toArray, List.set_cons_zero, List.set_cons_succ]
          refine wpAnyH_take (i := 1) (v := .int .i64 (t : Int)) rfl (by kernel_rfl) (by kernel_rfl) (by kernel_rfl) (fun _ _ _ h => h) (Or.inl ⟨by rfl, fun w hSw => by (try dsimp only at hSw); obtain ⟨z1, z2, z3⟩ := hSw; go_simp⟩) (by assumption) ?_
          simp only [Act.put, List.setIfInBounds_toArray, List.set_cons_zero, List.set_cons_succ]
          refine wpAnyH_take (i := 2) (v := .slice (some ⟨w3.heap.size, 0, none⟩) n n) rfl (by kernel_rfl) (by kernel_rfl) (by kernel_rfl) (fun _ _ _ h => h) (Or.inl ⟨by rfl, fun w hSw => by (try dsimp only at hSw); obtain ⟨z1, z2, z3⟩ := hSw; go_simp⟩) (by assumption) ?_
          simp only [Act.put, List.setIfInBounds_toArray, List.set_cons_zero, List.set_cons_succ]
          refine wpAnyH_take (i := 3) (v := .int .i64 (t : Int)) rfl (by kernel_rfl) (by kernel_rfl) (by kernel_rfl) (fun _ _ _ h => h) (Or.inl ⟨by rfl, fun w hSw => by (try dsimp only at hSw); obtain ⟨z1, z2, z3⟩ := hSw; go_simp⟩) (by assumption) ?_
          simp only [Act.put, List.setIfInBounds_toArray, List.set_cons_zero, List.set_cons_succ]
          refine wpAnyH_take (i := 4) (v := .pointer (some ⟨w3.heap.size, t, none⟩)) rfl (by kernel_rfl) (by kernel_rfl) (by kernel_rfl) (fun _ _ _ h => h) (Or.inl ⟨by rfl, fun w hSw => by (try dsimp only at hSw); obtain ⟨z1, z2, z3⟩ := hSw; go_simp⟩) (by assumption) ?_
          simp only [Act.put, List.setIfInBounds_toArray, List.set_cons_zero, List.set_cons_succ]
          refine wpAnyH_ready (rs := [5]) (by kernel_rfl) (by simp) ?_
          refine AllReadyH.cons rfl (fun K hK => ?_) AllReadyH.nil
          go_simp
          refine hK.out _ _ ⟨d5, d3, di⟩ (fun hHeld2 => ?_)
          clear hK K
          try simp only [Act.put, List.setIfInBounds_toArray, List.set_cons_zero, List.set_cons_succ]
          refine wpAnyH_take (i := 6) (v := .bool true) rfl (by kernel_rfl) (by kernel_rfl) (by kernel_rfl) (fun _ _ _ h => h) (Or.inl ⟨by rfl, fun w hSw => by (try dsimp only at hSw); obtain ⟨z1, z2, z3⟩ := hSw; go_simp⟩) (by assumption) ?_
          simp only [Act.put, List.setIfInBounds_toArray, List.set_cons_zero, List.set_cons_succ]
          refine wpAnyH_take (i := 7) (v := undef) rfl (by kernel_rfl) (by kernel_rfl) (by kernel_rfl) (fun _ _ _ h => h) (Or.inr ⟨by rfl, rfl⟩) (by assumption) ?_
          simp only [Act.put, List.setIfInBounds_toArray, List.set_cons_zero, List.set_cons_succ]
          refine wpAnyH_take (i := 8) (v := undef) rfl (by kernel_rfl) (by kernel_rfl) (by kernel_rfl) (fun _ _ _ h => h) (Or.inr ⟨by rfl, rfl⟩) (by assumption) ?_
          simp only [Act.put, List.setIfInBounds_toArray, List.set_cons_zero, List.set_cons_succ]
          refine wpAnyH_take (i := 9) (v := undef) rfl (by kernel_rfl) (by kernel_rfl) (by kernel_rfl) (fun _ _ _ h => h) (Or.inr ⟨by rfl, rfl⟩) (by assumption) ?_
          simp only [Act.put, List.setIfInBounds_toArray, List.set_cons_zero, List.set_cons_succ]
          refine wpAnyH_take (i := 10) (v := undef) rfl (by kernel_rfl) (by kernel_rfl) (by kernel_rfl) (fun _ _ _ h => h) (Or.inr ⟨by rfl, rfl⟩) (by assumption) ?_
          simp only [Act.put, List.setIfInBounds_toArray, List.set_cons_zero, List.set_cons_succ]
          refine wpAnyH_take (i := 11) (v := .bool true) rfl (by kernel_rfl) (by kernel_rfl) (by kernel_rfl) (fun _ _ _ h => h) (Or.inl ⟨by rfl, fun w hSw => by (try dsimp only at hSw); obtain ⟨z1, z2, z3⟩ := hSw; go_simp⟩) (by assumption) ?_
          simp only [Act.put, List.setIfInBounds_toArray, List.set_cons_zero, List.set_cons_succ]
          refine wpAnyH_take (i := 12) (v := .pointer (some ⟨w3.heap.size, t, none⟩)) rfl (by kernel_rfl) (by kernel_rfl) (by kernel_rfl) (fun _ _ _ h => h) (Or.inl ⟨by rfl, fun w hSw => by (try dsimp only at hSw); obtain ⟨z1, z2, z3⟩ := hSw; go_simp⟩) (by assumption) ?_
          simp only [Act.put, List.setIfInBounds_toArray, List.set_cons_zero, List.set_cons_succ]
          refine wpAnyH_ready (rs := [13]) (by kernel_rfl) (by simp) ?_
          refine AllReadyH.cons rfl (fun K hK => ?_) AllReadyH.nil
          go_simp
          refine hK.out _ _ ?hS (fun hHeld2 => ?_)
          case hS => exact ⟨(pw_setCell_far W.drew w3.heap.size (w3.heap.size + 1) t 0 _ (by omega)).trans d5, (pw_setCell_far W.drew w3.heap.size w1.heap.size t 0 _ (by omega)).trans d3, (pw_setCell_far W.drew w3.heap.size g3 t i _ (by have := HH.out.2.2; omega)).trans di⟩
          refine wpAnyH_done (by kernel_rfl) ?_ _
          exact ⟨((KeepsOthers.drew W).trans (KeepsOthers.setCell W.drew _ _)).from _, ⟨Below.setCell (p := ⟨w3.heap.size, t, none⟩) (below_drew (Below.refl _ W)) (by have := HW.out.size; show w.heap.size ≤ w3.heap.size; omega) _, Below.heap_setCell W.drew ⟨w3.heap.size, t, none⟩ _ W1.heap.size (by have := HZ1.out; show W1.heap.size ≠ w3.heap.size; omega)⟩, HPUT.out⟩
      | true =>
        obtain rfl := hcl rfl
        have di : W.drew.cell? ⟨g3, i, none⟩ = some (.bool true) := ki
        gi_wp2
        cases bb with
        | false =>
          have db : W.drew.cell? ⟨w3.heap.size, t, none⟩ = some (.bool false) := kb
          refine wpIn_region_calm (fun f => trivial) (by kernel_rfl) (by rfl) (S := fun W' => W'.cell? ⟨w3.heap.size + 1, 0, none⟩ = some (.slice (some ⟨w3.heap.size, 0, none⟩) n n) ∧ W'.cell? ⟨w1.heap.size, 0, none⟩ = some (.slice (some ⟨g3, 0, none⟩) n c3) ∧ W'.cell? ⟨g3, i, none⟩ = some (.bool true)) ⟨d5, d3, di⟩ (fun hHeld => ?_)
          refine wpAnyH_take (i := 0) (v := .slice (some ⟨w3.heap.size, 0, none⟩) n n) rfl (by kernel_rfl) (by kernel_rfl) (by kernel_rfl) (fun _ _ _ h => h) (Or.inl ⟨by rfl, fun w hSw => by (try dsimp only at hSw); obtain ⟨z1, z2, z3⟩ := hSw; go_simp⟩) (by assumption) ?_
          simp only [Act.put, List.setIfInBounds_toArray, List.set_cons_zero, List.set_cons_succ]
          refine wpAnyH_take (i := 1) (v := .int .i64 (t : Int)) rfl (by kernel_rfl) (by kernel_rfl) (by kernel_rfl) (fun _ _ _ h => h) (Or.inl ⟨by rfl, fun w hSw => by (try dsimp only at hSw); obtain ⟨z1, z2, z3⟩ := hSw; go_simp⟩) (by assumption) ?_
          simp only [Act.put, List.setIfInBounds_toArray, List.set_cons_zero, List.set_cons_succ]
          refine wpAnyH_take (i := 2) (v := .slice (some ⟨w3.heap.size, 0, none⟩) n n) rfl (by kernel_rfl) (by kernel_rfl) (by kernel_rfl) (fun _ _ _ h => h) (Or.inl ⟨by rfl, fun w hSw => by (try dsimp only at hSw); obtain ⟨z1, z2, z3⟩ := hSw; go_simp⟩) (by assumption) ?_
          simp only [Act.put, List.setIfInBounds_toArray, List.set_cons_zero, List.set_cons_succ]
          refine wpAnyH_take (i := 3) (v := .int .i64 (t : Int)) rfl (by kernel_rfl) (by kernel_rfl) (by kernel_rfl) (fun _ _ _ h => h) (Or.inl ⟨by rfl, fun w hSw => by (try dsimp only at hSw); obtain ⟨z1, z2, z3⟩ := hSw; go_simp⟩) (by assumption) ?_
          simp only [Act.put, List.setIfInBounds_toArray, List.set_cons_zero, List.set_cons_succ]
          refine wpAnyH_take (i := 4) (v := .pointer (some ⟨w3.heap.size, t, none⟩)) rfl (by kernel_rfl) (by kernel_rfl) (by kernel_rfl) (fun _ _ _ h => h) (Or.inl ⟨by rfl, fun w hSw => by (try dsimp only at hSw); obtain ⟨z1, z2, z3⟩ := hSw; go_simp⟩) (by assumption) ?_
          simp only [Act.put, List.setIfInBounds_toArray, List.set_cons_zero, List.set_cons_succ]
          refine wpAnyH_ready (rs := [5]) (by kernel_rfl) (by simp) ?_
          refine AllReadyH.cons rfl (fun K hK => ?_) AllReadyH.nil
          go_simp
          refine hK.out _ _ ⟨d5, d3, di⟩ (fun hHeld2 => ?_)
          clear hK K
          try simp only [Act.put, List.setIfInBounds_toArray, List.set_cons_zero, List.set_cons_succ]
          refine wpAnyH_take (i := 6) (v := .bool false) rfl (by kernel_rfl) (by kernel_rfl) (by kernel_rfl) (fun _ _ _ h => h) (Or.inl ⟨by rfl, fun w hSw => by (try dsimp only at hSw); obtain ⟨z1, z2, z3⟩ := hSw; go_simp⟩) (by assumption) ?_
          simp only [Act.put, List.setIfInBounds_toArray, List.set_cons_zero, List.set_cons_succ]
          refine wpAnyH_take (i := 7) (v := .slice (some ⟨g3, 0, none⟩) n c3) rfl (by kernel_rfl) (by kernel_rfl) (by kernel_rfl) (fun _ _ _ h => h) (Or.inl ⟨by rfl, fun w hSw => by (try dsimp only at hSw); obtain ⟨z1, z2, z3⟩ := hSw; go_simp⟩) (by assumption) ?_
          simp only [Act.put, List.setIfInBounds_toArray, List.set_cons_zero, List.set_cons_succ]
          refine wpAnyH_take (i := 8) (v := .int .i64 (i : Int)) rfl (by kernel_rfl) (by kernel_rfl) (by kernel_rfl) (fun _ _ _ h => h) (Or.inl ⟨by rfl, fun w hSw => by (try dsimp only at hSw); obtain ⟨z1, z2, z3⟩ := hSw; go_simp⟩) (by assumption) ?_
          simp only [Act.put, List.setIfInBounds_toArray, List.set_cons_zero, List.set_cons_succ]
          refine wpAnyH_take (i := 9) (v := .pointer (some ⟨g3, i, none⟩)) rfl (by kernel_rfl) (by kernel_rfl) (by kernel_rfl) (fun _ _ _ h => h) (Or.inl ⟨by rfl, fun w hSw => by (try dsimp only at hSw); obtain ⟨z1, z2, z3⟩ := hSw; go_simp⟩) (by assumption) ?_
          simp only [Act.put, List.setIfInBounds_toArray, List.set_cons_zero, List.set_cons_succ]
          refine wpAnyH_take (i := 10) (v := .bool true) rfl (by kernel_rfl) (by kernel_rfl) (by kernel_rfl) (fun _ _ _ h => h) (Or.inl ⟨by rfl, fun w hSw => by (try dsimp only at hSw); obtain ⟨z1, z2, z3⟩ := hSw; go_simp⟩) (by assumption) ?_
          simp only [Act.put, List.setIfInBounds_toArray, List.set_cons_zero, List.set_cons_succ]
          refine wpAnyH_take (i := 11) (v := .bool true) rfl (by kernel_rfl) (by kernel_rfl) (by kernel_rfl) (fun _ _ _ h => h) (Or.inl ⟨by rfl, fun w hSw => by (try dsimp only at hSw); obtain ⟨z1, z2, z3⟩ := hSw; go_simp⟩) (by assumption) ?_
          simp only [Act.put, List.setIfInBounds_toArray, List.set_cons_zero, List.set_cons_succ]
          refine wpAnyH_take (i := 12) (v := .pointer (some ⟨w3.heap.size, t, none⟩)) rfl (by kernel_rfl) (by kernel_rfl) (by kernel_rfl) (fun _ _ _ h => h) (Or.inl ⟨by rfl, fun w hSw => by (try dsimp only at hSw); obtain ⟨z1, z2, z3⟩ := hSw; go_simp⟩) (by assumption) ?_
          simp only [Act.put, List.setIfInBounds_toArray, List.set_cons_zero, List.set_cons_succ]
          refine wpAnyH_ready (rs := [13]) (by kernel_rfl) (by simp) ?_
          refine AllReadyH.cons rfl (fun K hK => ?_) AllReadyH.nil
          go_simp
          refine hK.out _ _ ?hS (fun hHeld2 => ?_)
          case hS => exact ⟨(pw_setCell_far W.drew w3.heap.size (w3.heap.size + 1) t 0 _ (by omega)).trans d5, (pw_setCell_far W.drew w3.heap.size w1.heap.size t 0 _ (by omega)).trans d3, (pw_setCell_far W.drew w3.heap.size g3 t i _ (by have := HH.out.2.2; omega)).trans di⟩
          refine wpAnyH_done (by kernel_rfl) ?_ _
          exact ⟨((KeepsOthers.drew W).trans (KeepsOthers.setCell W.drew _ _)).from _, ⟨Below.setCell (p := ⟨w3.heap.size, t, none⟩) (below_drew (Below.refl _ W)) (by have := HW.out.size; show w.heap.size ≤ w3.heap.size; omega) _, Below.heap_setCell W.drew ⟨w3.heap.size, t, none⟩ _ W1.heap.size (by have := HZ1.out; show W1.heap.size ≠ w3.heap.size; omega)⟩, HPUT.out⟩
        | true =>
          have db : W.drew.cell? ⟨w3.heap.size, t, none⟩ = some (.bool true) := kb
          refine wpIn_region_calm (fun f => trivial) (by kernel_rfl) (by rfl) (S := fun W' => W'.cell? ⟨w3.heap.size + 1, 0, none⟩ = some (.slice (some ⟨w3.heap.size, 0, none⟩) n n) ∧ W'.cell? ⟨w1.heap.size, 0, none⟩ = some (.slice (some ⟨g3, 0, none⟩) n c3) ∧ W'.cell? ⟨g3, i, none⟩ = some (.bool true)) ⟨d5, d3, di⟩ (fun hHeld => ?_)
          refine wpAnyH_take (i := 0) (v := .slice (some ⟨w3.heap.size, 0, none⟩) n n) rfl (by kernel_rfl) (by kernel_rfl) (by kernel_rfl) (fun _ _ _ h => h) (Or.inl ⟨by rfl, fun w hSw => by (try dsimp only at hSw); obtain ⟨z1, z2, z3⟩ := hSw; go_simp⟩) (by assumption) ?_
          simp only [Act.put, List.setIfInBounds_toArray, List.set_cons_zero, List.set_cons_succ]
          refine wpAnyH_take (i := 1) (v := .int .i64 (t : Int)) rfl (by kernel_rfl) (by kernel_rfl) (by kernel_rfl) (fun _ _ _ h => h) (Or.inl ⟨by rfl, fun w hSw => by (try dsimp only at hSw); obtain ⟨z1, z2, z3⟩ := hSw; go_simp⟩) (by assumption) ?_
          simp only [Act.put, List.setIfInBounds_toArray, List.set_cons_zero, List.set_cons_succ]
          refine wpAnyH_take (i := 2) (v := .slice (some ⟨w3.heap.size, 0, none⟩) n n) rfl (by kernel_rfl) (by kernel_rfl) (by kernel_rfl) (fun _ _ _ h => h) (Or.inl ⟨by rfl, fun w hSw => by (try dsimp only at hSw); obtain ⟨z1, z2, z3⟩ := hSw; go_simp⟩) (by assumption) ?_
          simp only [Act.put, List.setIfInBounds_toArray, List.set_cons_zero, List.set_cons_succ]
          refine wpAnyH_take (i := 3) (v := .int .i64 (t : Int)) rfl (by kernel_rfl) (by kernel_rfl) (by kernel_rfl) (fun _ _ _ h => h) (Or.inl ⟨by rfl, fun w hSw => by (try dsimp only at hSw); obtain ⟨z1, z2, z3⟩ := hSw; go_simp⟩) (by assumption) ?_
          simp only [Act.put, List.setIfInBounds_toArray, List.set_cons_zero, List.set_cons_succ]
          refine wpAnyH_take (i := 4) (v := .pointer (some ⟨w3.heap.size, t, none⟩)) rfl (by kernel_rfl) (by kernel_rfl) (by kernel_rfl) (fun _ _ _ h => h) (Or.inl ⟨by rfl, fun w hSw => by (try dsimp only at hSw); obtain ⟨z1, z2, z3⟩ := hSw; go_simp⟩) (by assumption) ?_
          simp only [Act.put, List.setIfInBounds_toArray, List.set_cons_zero, List.set_cons_succ]
          refine wpAnyH_ready (rs := [5]) (by kernel_rfl) (by simp) ?_
          refine AllReadyH.cons rfl (fun K hK => ?_) AllReadyH.nil
          go_simp
          refine hK.out _ _ ⟨d5, d3, di⟩ (fun hHeld2 => ?_)
          clear hK K
          try simp only [Act.put, List.setIfInBounds_toArray, List.set_cons_zero, List.set_cons_succ]
          refine wpAnyH_take (i := 6) (v := .bool true) rfl (by kernel_rfl) (by kernel_rfl) (by kernel_rfl) (fun _ _ _ h => h) (Or.inl ⟨by rfl, fun w hSw => by (try dsimp only at hSw); obtain ⟨z1, z2, z3⟩ := hSw; go_simp⟩) (by assumption) ?_
          simp only [Act.put, List.setIfInBounds_toArray, List.set_cons_zero, List.set_cons_succ]
          refine wpAnyH_take (i := 7) (v := undef) rfl (by kernel_rfl) (by kernel_rfl) (by kernel_rfl) (fun _ _ _ h => h) (Or.inr ⟨by rfl, rfl⟩) (by assumption) ?_
          simp only [Act.put, List.setIfInBounds_toArray, List.set_cons_zero, List.set_cons_succ]
          refine wpAnyH_take (i := 8) (v := undef) rfl (by kernel_rfl) (by kernel_rfl) (by kernel_rfl) (fun _ _ _ h => h) (Or.inr ⟨by rfl, rfl⟩) (by assumption) ?_
          simp only [Act.put, List.setIfInBounds_toArray, List.set_cons_zero, List.set_cons_succ]
          refine wpAnyH_take (i := 9) (v := undef) rfl (by kernel_rfl) (by kernel_rfl) (by kernel_rfl) (fun _ _ _ h => h) (Or.inr ⟨by rfl, rfl⟩) (by assumption) ?_
          simp only [Act.put, List.setIfInBounds_toArray, List.set_cons_zero, List.set_cons_succ]
          refine wpAnyH_take (i := 10) (v := undef) rfl (by kernel_rfl) (by kernel_rfl) (by kernel_rfl) (fun _ _ _ h => h) (Or.inr ⟨by rfl, rfl⟩) (by assumption) ?_
          simp only [Act.put, List.setIfInBounds_toArray, List.set_cons_zero, List.set_cons_succ]
          refine wpAnyH_take (i := 11) (v := .bool true) rfl (by kernel_rfl) (by kernel_rfl) (by kernel_rfl) (fun _ _ _ h => h) (Or.inl ⟨by rfl, fun w hSw => by (try dsimp only at hSw); obtain ⟨z1, z2, z3⟩ := hSw; go_simp⟩) (by assumption) ?_
          simp only [Act.put, List.setIfInBounds_toArray, List.set_cons_zero, List.set_cons_succ]
          refine wpAnyH_take (i := 12) (v := .pointer (some ⟨w3.heap.size, t, none⟩)) rfl (by kernel_rfl) (by kernel_rfl) (by kernel_rfl) (fun _ _ _ h => h) (Or.inl ⟨by rfl, fun w hSw => by (try dsimp only at hSw); obtain ⟨z1, z2, z3⟩ := hSw; go_simp⟩) (by assumption) ?_
          simp only [Act.put, List.setIfInBounds_toArray, List.set_cons_zero, List.set_cons_succ]
          refine wpAnyH_ready (rs := [13]) (by kernel_rfl) (by simp) ?_
          refine AllReadyH.cons rfl (fun K hK => ?_) AllReadyH.nil
          go_simp
          refine hK.out _ _ ?hS (fun hHeld2 => ?_)
          case hS => exact ⟨(pw_setCell_far W.drew w3.heap.size (w3.heap.size + 1) t 0 _ (by omega)).trans d5, (pw_setCell_far W.drew w3.heap.size w1.heap.size t 0 _ (by omega)).trans d3, (pw_setCell_far W.drew w3.heap.size g3 t i _ (by have := HH.out.2.2; omega)).trans di⟩
          refine wpAnyH_done (by kernel_rfl) ?_ _
          exact ⟨((KeepsOthers.drew W).trans (KeepsOthers.setCell W.drew _ _)).from _, ⟨Below.setCell (p := ⟨w3.heap.size, t, none⟩) (below_drew (Below.refl _ W)) (by have := HW.out.size; show w.heap.size ≤ w3.heap.size; omega) _, Below.heap_setCell W.drew ⟨w3.heap.size, t, none⟩ _ W1.heap.size (by have := HZ1.out; show W1.heap.size ≠ w3.heap.size; omega)⟩, HPUT.out⟩
    case done =>
      rintro D ys W hD hys hi hK
      have hby : byOf rr n (ys.map (·.1)) = byOf rr n xs := by rw [hys]
      have hi1 := hi.1
      rw [hby] at hi1
      obtain ⟨bys, hbys⟩ : ∃ bys, byOf rr n xs = bys := ⟨_, rfl⟩
      rw [hbys] at hi1
      have HI := Aside0.mk hi1
      have HK := Aside0.mk hK
      have HD := Aside0.mk hD
      have hfact : ∀ k : Nat, k < n → (k = 0 → rbB rr k = true) ∧ (k ≠ 0 → rbB rr k = true → rbB bys k = true) := by
        intro k hk
        have hO := ordOK_B l0 (by rw [HN.out]; omega)
        rw [HE.out] at hO
        have s : ∀ j : Nat, j < n → (rbB rr j = true ↔ (j : Int) ∈ ordB l0) := by
          intro j hj
          rw [← hO.seen j (by rw [HN.out]; exact hj)]
          unfold rbB
          rw [List.getD_eq_getElem?_getD]
          cases h : rr[j]? <;> simp
        refine ⟨fun h0 => ?_, fun h0 hr => ?_⟩
        · subst h0
          exact (s 0 hk).2 ((hO.reach 0).2 (Rch.refl 0))
        · obtain ⟨P, Q, e⟩ := List.append_of_mem ((s k hk).1 hr)
          obtain ⟨p, hpP, hpk⟩ := hO.pred P Q k e h0
          have hpo : (p : Int) ∈ ordB l0 := by rw [e]; exact List.mem_append_left _ hpP
          have hpn := ((hO.reach p).1 hpo).lt (by rw [HN.out]; omega)
          rw [HN.out] at hpn
          rw [← hbys]
          unfold byOf
          refine byOf_true rr n k hk xs _ List.length_replicate (fun q hq => ?_) (Or.inr ⟨((p : Int), (k : Int)), ?_, rfl, ?_⟩)
          · have := (behR_in l0 n n 0 q (by rw [HXS.out]; exact hq)).2.2
            exact isN_nat this
          · rw [← HXS.out]
            exact (behR_mem l0 n n 0 _).2 ⟨p, Nat.zero_le _, by omega, rfl, hpk, by unfold isN; rw [decide_eq_true (by omega), decide_eq_true (by omega)]; rfl⟩
          · rw [Int.toNat_natCast]
            exact (s p hpn).2 hpo
      have hblen : bys.length = n := by rw [← hbys]; exact byOf_len _ _ _
      have HF := Aside0.mk hfact
      have HBL := Aside0.mk hblen
      clear hi hi1 hby hys hK hD hfact hbys hblen b2 hwall
      dsimp only
      gi_wp2
      go_wp2_with fail
      go_loop [8] (fun v8 => ∃ k : Nat, v8 = .int .i64 k ∧ k ≤ n) (fun v8 => n - (intOf v8).toNat)
      case atStart => exact ⟨0, rfl, Nat.zero_le _⟩
      case round =>
        obtain ⟨k, rfl, hk⟩ := hrel
        by_cases hlt : k < n
        · have hi1 : (k : Int) < (n : Int) := by omega
          have hi0 : (0 : Int) ≤ (k : Int) := by omega
          obtain ⟨g3, hg3⟩ : ∃ g3, A3 = some ⟨g3, 0, none⟩ := by
            have ho := Kd.own_of_R HR3.out
            rcases ho.2 with ⟨e, h0⟩ | ⟨g, cap, cu, e, _⟩
            · simp only [Value.slice.injEq] at e
              have := HRL.out
              omega
            · simp only [Value.slice.injEq] at e
              exact ⟨g, e.1⟩
          have hr3 := HI.out.r3 _ hg3
          have hc3 := HI.out.c3
          rw [hg3] at hc3
          have ki : W.cell? ⟨g3, k, none⟩ = some (.bool (rbB rr k)) := (blk_cell hr3 k).trans (HCELL.out k hlt)
          have k3 : W.cell? ⟨w1.heap.size, 0, none⟩ = some (.slice (some ⟨g3, 0, none⟩) n c3) := blk_cell hc3 0
          have k5 : W.cell? ⟨w3.heap.size + 1, 0, none⟩ = some (.slice (some ⟨w3.heap.size, 0, none⟩) n n) := blk_cell HI.out.c5 0
          have kb : W.cell? ⟨w3.heap.size, k, none⟩ = some (.bool (rbB bys k)) := (blk_cell HI.out.a5 k).trans (bools_get _ _ _ (by unfold rbB; rw [List.getD_eq_getElem?_getD, List.getElem?_eq_getElem (by rw [HBL.out]; exact hlt)]; rfl))
          have hf := HF.out k hlt
          clear hr3 hc3 hg3
          by_cases h0 : k = 0
          · subst h0
            rw [hf.1 rfl] at ki
            clear hf
            go_wp2_with fail
            go_round
            case rel => exact ⟨1, by go_num, by omega⟩
            case measure => simp [intOf]; omega
          · have hp : (0 : Int) < (k : Int) := by omega
            have hp1 : ((k : Int) == 0) = false := by simp [h0]
            have H0 := Aside0.mk h0
            cases hrk : rbB rr k with
            | true =>
              rw [hf.2 h0 hrk] at kb
              rw [hrk] at ki
              clear hf hrk h0
              go_wp2_with fail
              go_round
              case rel => exact ⟨k + 1, by go_num, by omega⟩
              case measure => simp [intOf]; omega
            | false =>
              rw [hrk] at ki
              clear hf hrk h0
              go_wp2_with fail
              go_round
              case rel => exact ⟨k + 1, by go_num, by omega⟩
              case measure => simp [intOf]; omega
        · have hi1 : ¬ (k : Int) < (n : Int) := by omega
          have y1 : W.cell? ⟨w.heap.size, 0, none⟩ = some (.bool false) := blk_cell HI.out.c2 0
          have y2 : W.frozen? ⟨w.heap.size, 0, none⟩ = false := blk_frozen HI.out.c2 0
          go_wp2_with fail
          have hs := blk_set HI.out.c2 0 (.bool true)
          have hdd : (W.setCell ⟨w.heap.size, 0, none⟩ (.bool true)).heap[D]? = some (.deferred (some [])) := (Below.heap_setCell W ⟨w.heap.size, 0, none⟩ _ D (by have := HD.out; have := HW.out.size; have := HZ4.out; show D ≠ w.heap.size; omega)).trans HK.out
          refine ⟨by simp, .inl ⟨_, _, rfl, run_takeDeferred hdd, ?_⟩⟩
          have hg := grownBy_putObj' (W.setCell ⟨w.heap.size, 0, none⟩ (.bool true)) D (.deferred none)
          have hs2 := (hg.block w.heap.size (blk_lt hs) (fun e => by injection e with e; have := HD.out; have := HW.out.size; have := HZ4.out; omega)).trans hs
          have f3 := blk_cell hs2 0
          refine ⟨.bool true, ?_, rfl, ?_⟩
          · simp [results, Try.f8, go_sem, f3]
          · exact (Below.setCell (p := ⟨w.heap.size, 0, none⟩) HI.out.hb (Nat.le_refl _) _).grown hg (by rw [World.size_setCell]; exact HI.out.hb.size) (fun k e => by injection e with e; have := HD.out; have := HW.out.size; omega)
    case stop =>
      rintro D c pre W _ _ h _
      exact h.elim
theorem pianolalaw08_FlowReaches.calls (A0 : Option Addr) (c0 : Nat) (l0 : List S30) (r : Bool) (w : World) (hr0 : Kd.C k30 w A0 l0.length l0) (hc0 : l0.length ≤ c0) (h : pianolalaw08_FlowReaches.f l0 = some r) :
    Calls Try.prog 8 #[.slice A0 l0.length c0] w fun e w' => e = .returned (.bool r) ∧ Below w.heap.size w w' := by
  unfold pianolalaw08_FlowReaches.f at h
  split at h
  · rename_i hb
    obtain rfl := Option.some.inj h
    exact reaches_walk A0 c0 l0 l0.length rfl w hr0 hc0 hb
  · exact absurd h (by simp)

end Go.Proofs.Ytpfbfnbffglbkaa.P
