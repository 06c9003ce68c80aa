/- Ytpfbfnbffglbkaa: what Go functions come to, and that they do: walks, printed by a program of this session or typed by hand; no statement of the seat stands here. -/
import Derived.Test.YtpfbfnbffglbkaaP0
import Derived.Test.YtpfbfnbffglbkaaFlowW
namespace Go.Proofs.Ytpfbfnbffglbkaa.P
open Go.RowKit Go.Proofs.YtpfbfnbffglbkaaW.PrintWords Go.Proofs.YtpfbfnbffglbkaaW.PrintLast Go.Proofs.YtpfbfnbffglbkaaW.PrintMore
attribute [local go_sem] max2_int min2_int max_two min_two max_three min_three max_four min_four   -- for this text's walks alone
set_option linter.unusedVariables false
set_option linter.unusedSimpArgs false


/-! ### pianolaref08_Walk: function 19 -/
-- IMPORT Derived.Test.YtpfbfnbffglbkaaFlowW
def pianolaref08_Walk.f (l0 : List S30) (a1 : Int) : Option (List Bool × List Int) := if l0.length ≤ 3600000000000 then some (walkB l0 a1) else none
def WalkP (w : World) (r : List Bool × List Int) (e : Ending) (w' : World) : Prop :=
  ∃ v0_ v1_ : Value, e = .returned (.tuple #[v0_, v1_]) ∧ Kd.R Kd.bool 4 w' w.heap.size (fun _ => True) v0_ r.1 ∧ Kd.R (Kd.int .i64) 3 w' w.heap.size (fun _ => True) v1_ r.2 ∧ Below w.heap.size w w'
theorem WK.ends {w W : World} {n : Nat} {v7 v8 v9 : Value} {seen : List Bool} {left stk nxt : List Int} (h : WK w W n v7 v8 v9 seen left stk nxt) (hs : seen.length = n) (hn : n ≤ 3600000000000) :
    Kd.R Kd.bool 4 W w.heap.size (fun _ => True) (.slice (some ⟨w.heap.size, 0, none⟩) n n) seen ∧ Kd.R (Kd.int .i64) 3 W w.heap.size (fun _ => True) v7 left := by
  refine ⟨Kd.R_of_own (h1 := fun _ => rfl) (enc := Value.bool) ?_ (fun _ _ => trivial), Kd.R_lower (Kd.R_of_own (h1 := fun _ => rfl) h.o7 (fun _ _ => trivial)) (by omega)⟩
  rw [hs]
  refine ⟨by rw [Nat.mul_one, ← hs]; simp [encs], .inr ⟨w.heap.size, n, (bools seen).toArray, rfl, Nat.le_refl _, h.o6, Nat.le_refl _, by unfold maxLen; omega, by simp [bools, hs], ?_⟩⟩
  rw [Nat.mul_one, ← hs]
  show (bools seen).take seen.length = encs Value.bool seen
  rw [List.take_of_length_le (by simp [bools])]
  rfl
theorem WK.start (w : World) (n : Nat) (hn : n ≤ 3600000000000) : WK w (w.alloc (.cells (madeCells #[.bool false] n) 4)) n (.slice none 0 0) (.slice none 0 0) (.slice none 0 0) (List.replicate n false) [] [] [] := by
  refine ⟨?_, own_nil _ _ _ _, own_nil _ _ _ _, own_nil _ _ _ _, Or.inl rfl, Or.inl rfl, Or.inl rfl, below_alloc (Below.refl _ w) _⟩
  have hm : madeCells #[Value.bool false] n = (bools (List.replicate n false)).toArray := by
    apply Array.ext'
    show (madeCells #[Value.bool false] n).toList = bools (List.replicate n false)
    rw [toList_madeCells_one]
    unfold bools
    rw [List.map_replicate]
  rw [← hm]
  exact blk_new w _
set_option maxRecDepth 100000 in
set_option maxHeartbeats 8000000 in
theorem walk_walk (A0 : Option Addr) (c0 : Nat) (l0 : List S30) (n : Nat) (hn : l0.length = n) (wo : Int) (w : World) (hr0 : Kd.C k30 w A0 n l0) (hc0 : n ≤ c0) (hmx : n ≤ 3600000000000) :
    Calls Try.prog 19 #[.slice A0 n c0, .int .i64 wo] w (WalkP w (walkB l0 wo)) := by
  have HR0 := Aside0.mk hr0
  have HN := Aside0.mk hn
  have hmk := print_make_of (P := Try.prog) 36 4 (.bool false) 1 Try.underlying36 info4 rfl (by decide) n (by omega)
  have hs := WK.start w n hmx
  have hmk0 := hmk w
  obtain ⟨W0, hW0⟩ : ∃ W0, w.alloc (.cells (madeCells #[.bool false] n) 4) = W0 := ⟨_, rfl⟩
  rw [hW0] at hs hmk0
  have HS := Aside0.mk hs
  clear hr0 hn hmk hs hW0
  by_cases h0 : n = 0
  · have HW := Aside0.mk (show walkB l0 wo = (List.replicate n false, []) by unfold walkB; rw [if_pos (Or.inl (by rw [HN.out]; exact h0)), HN.out])
    have hb : ((n : Int) == 0) = true := by simp [h0]
    have HZ := Aside0.mk h0
    clear h0
    go_enter Try.func19, Try.ntmps19
    go_wp2
    go_ret2
    obtain ⟨e1, e2⟩ := HS.out.ends List.length_replicate hmx
    exact ⟨_, _, rfl, by rw [HW.out]; exact e1, by rw [HW.out]; exact e2, HS.out.hb⟩
  · by_cases hw0 : wo = 0
    · have HW := Aside0.mk (show walkB l0 wo = (List.replicate n false, []) by unfold walkB; rw [if_pos (Or.inr hw0), HN.out])
      have hb : ((n : Int) == 0) = false := by simp [h0]
      have hb1 : (wo == 0) = true := by simp [hw0]
      have HZ := Aside0.mk h0
      have HZ1 := Aside0.mk hw0
      clear h0 hw0
      go_enter Try.func19, Try.ntmps19
      go_wp2
      go_ret2
      obtain ⟨e1, e2⟩ := HS.out.ends List.length_replicate hmx
      exact ⟨_, _, rfl, by rw [HW.out]; exact e1, by rw [HW.out]; exact e2, HS.out.hb⟩
    · have HW := Aside0.mk (show walkB l0 wo = vis (nxw (nxB l0) wo) n n 0 (List.replicate n false, []) by unfold walkB; rw [if_neg (by rw [HN.out]; omega), HN.out])
      have hb : ((n : Int) == 0) = false := by simp [h0]
      have hb1 : (wo == 0) = false := by simp [hw0]
      have hp : (0 : Int) < (n : Int) := by omega
      have HP0 := Aside0.mk (show 0 < n by omega)
      have HWS := Aside0.mk (WS.start (nxB l0) wo n (by omega))
      obtain ⟨R, hR⟩ : ∃ R, vis (nxw (nxB l0) wo) n n 0 (List.replicate n false, []) = R := ⟨_, rfl⟩
      rw [hR] at HW HWS
      obtain ⟨K, hK⟩ : ∃ K, potW (nxB l0) [(0, 0)] + potU (nxB l0) 0 ((List.replicate n false).set 0 true) + 1 = K := ⟨_, rfl⟩
      rw [hK] at HWS
      clear hR hK
      have HZ := Aside0.mk h0
      have HZ1 := Aside0.mk hw0
      clear h0 hw0
      go_enter Try.func19, Try.ntmps19
      go_wp2_with (first | ((with_reducible refine gate_builtin (b := .append) (xs := #[.tmp 24, .tmp 25]) rfl ?_); at_builtin; refine print_append_num (w0 := W0) (w.heap.size + 1) rfl (.tmp 24) (.tmp 25) 23 3 .i64 8 rfl Try.underlying23 info3 (by decide) (.slice none 0 0) [] 0 rfl rfl ?aO ?aB ?aS ?aL ?_; (case aO => exact (HS.out).o8); (case aB => exact Below.refl _ _); (case aS => exact blk_lt HS.out.o6); (case aL => simp); intro v1 W8 ho1 hb1 hg1 hat1; obtain ⟨A8, n8, c8, hv1, hn1⟩ : ∃ A m c, v1 = .slice A m c ∧ m = ([] ++ [0]).length := (by obtain ⟨A, c, hv⟩ := own_slice ho1; exact ⟨A, _, c, hv, rfl⟩); subst hv1; have HN8 := Aside0.mk hn1; have HS' := Aside0.mk ((HS.out).push8 0 ho1 hb1 hg1 hat1); clear ho1 hb1 hg1 hat1 hn1 HS; have HS := HS'; clear HS') | ((with_reducible refine gate_builtin (b := .append) (xs := #[.tmp 27, .tmp 28]) rfl ?_); at_builtin; refine print_append_num (w0 := W8) (w.heap.size + 1) rfl (.tmp 27) (.tmp 28) 23 3 .i64 8 rfl Try.underlying23 info3 (by decide) (.slice none 0 0) [] 0 rfl rfl ?aO ?aB ?aS ?aL ?_; (case aO => exact (HS.out).o9); (case aB => exact Below.refl _ _); (case aS => exact blk_lt HS.out.o6); (case aL => simp); intro v1 W9 ho1 hb1 hg1 hat1; obtain ⟨A9, n9, c9, hv1, hn1⟩ : ∃ A m c, v1 = .slice A m c ∧ m = ([] ++ [0]).length := (by obtain ⟨A, c, hv⟩ := own_slice ho1; exact ⟨A, _, c, hv, rfl⟩); subst hv1; have HN9 := Aside0.mk hn1; have HS' := Aside0.mk ((HS.out).push9 0 ho1 hb1 hg1 hat1); clear ho1 hb1 hg1 hat1 hn1 HS; have HS := HS'; clear HS'; have f6 : W9.cell? ⟨w.heap.size, 0, none⟩ = some (.bool false) := (blk_cell HS.out.o6 0).trans (bools_get _ _ _ (by rw [List.getElem?_replicate, if_pos HP0.out])); have f7 : W9.frozen? ⟨w.heap.size, 0, none⟩ = false := blk_frozen HS.out.o6 0))
      go_loopg [7, 8, 9] K (fun kq v7 v8 v9 wz => ∃ (A7 : Option Addr) (n7 c7 : Nat) (A8 : Option Addr) (n8 c8 : Nat) (A9 : Option Addr) (n9 c9 : Nat) (seen : List Bool) (left : List Int) (F : List (Nat × Nat)), v7 = .slice A7 n7 c7 ∧ v8 = .slice A8 n8 c8 ∧ v9 = .slice A9 n9 c9 ∧
        Aside0 (n7 = left.length ∧ n8 = F.length ∧ n9 = F.length) ∧ Aside0 (WK w wz n (.slice A7 n7 c7) (.slice A8 n8 c8) (.slice A9 n9 c9) seen left (stkL F) (nxtL F)) ∧ Aside0 (WS (nxB l0) wo n R kq seen left F))
      case atStart => exact ⟨none, 0, 0, A8, n8, c8, A9, n9, c9, _, [], [(0, 0)], rfl, rfl, rfl, ⟨rfl, HN8.out, HN9.out⟩, ⟨HS.out.see 0⟩, HWS⟩
      case round =>
        clear HWS HS HN8 HN9 hmk0
        obtain ⟨A7, n7, c7, A8, n8, c8, A9, n9, c9, seen, left, F, rfl, rfl, rfl, HNN, HS, HWS⟩ := hrel
        cases F with
        | nil =>
          obtain rfl : n8 = 0 := HNN.out.2.1
          go_wp2
          go_ret2
          obtain ⟨e1, e2⟩ := HS.out.ends HWS.out.sl hmx
          have hd := HWS.out.done
          exact ⟨_, _, rfl, by rw [HW.out, ← hd]; exact e1, by rw [HW.out, ← hd]; exact e2, HS.out.hb⟩
        | cons p F =>
          obtain ⟨i, k⟩ := p
          cases gk with
          | zero => exact absurd HWS.out.pot (by omega)
          | succ K' =>
            obtain ⟨m, hm⟩ : ∃ m, m = F.length := ⟨_, rfl⟩
            obtain rfl : n8 = m + 1 := by rw [hm]; exact HNN.out.2.1
            obtain rfl : n9 = m + 1 := by rw [hm]; exact HNN.out.2.2
            have hs := HS.out
            rw [stkL_cons, nxtL_cons] at hs
            obtain ⟨g8, rfl⟩ := own_some (by have := hs.o8; rw [List.length_append, List.length_singleton, stkL_len, ← hm] at this; exact this)
            obtain ⟨g9, rfl⟩ := own_some (by have := hs.o9; rw [List.length_append, List.length_singleton, nxtL_len, ← hm] at this; exact this)
            have hin := HWS.out.fr (i, k) List.mem_cons_self
            dsimp only at hin
            have q1 := (own_top hs.o8 ((stkL_len F).trans hm.symm)).1
            obtain ⟨q2, q3⟩ := own_top hs.o9 ((nxtL_len F).trans hm.symm)
            obtain ⟨ad, A2, c2, rfl, hl0, hl1, q4w, hc2, hC2⟩ := at_T30 HR0.out (i : Int) (by omega) (by omega)
            have q4 := pw_cell_below hs.hb q4w
            have l0' := pw_cell_below hs.hb hl0
            have l1' := pw_cell_below hs.hb hl1
            rw [Int.toNat_natCast] at l0' l1'
            have hmb : m ≤ 3600000000000 := by have := HWS.out.nd; rw [List.length_cons] at this; omega
            obtain ⟨nl, hnl⟩ : ∃ nl, nl = nxB l0 i := ⟨_, rfl⟩
            have hnl' : (rd_T30 l0 (i : Int)).f2 = nl := hnl.symm
            rw [hnl', Int.toNat_natCast] at q4
            rw [hnl'] at hc2 hC2
            have hmx2 := Kd.C_max hC2
            clear HS
            have HS := Aside0.mk hs
            have HC2 := Aside0.mk (show Kd.C (Kd.int .i64) w A2 nl.length nl from hC2)
            have HM := Aside0.mk hm
            have HNL := Aside0.mk hnl
            have hii : (i : Int) < (n : Int) := by omega
            clear hs hC2 hm hnl hnl' q4w hl0 hl1 f6 f7
            go_wp2_with fail
            obtain ⟨Wa, hWa⟩ : ∃ Wa, wr.alloc (.cells #[.int .i64 (rd_T30 l0 (i : Int)).f0, .int .i64 (rd_T30 l0 (i : Int)).f1, .slice A2 nl.length c2] 30) = Wa := ⟨_, rfl⟩
            have hxb : Wa.heap[wr.heap.size]? = some (.cells #[.int .i64 (rd_T30 l0 (i : Int)).f0, .int .i64 (rd_T30 l0 (i : Int)).f1, .slice A2 nl.length c2] 30 (0, 0)) := by rw [← hWa]; exact blk_new wr _
            have hbl : Below wr.heap.size wr Wa := by rw [← hWa]; exact below_alloc (Below.refl _ _) _
            rw [hWa]
            have x2 : Wa.cell? ⟨wr.heap.size, 2, none⟩ = some (.slice A2 nl.length c2) := blk_cell hxb 2
            have HSa := Aside0.mk (HS.out.below hbl)
            have s1 := (own_top HSa.out.o8 ((stkL_len F).trans HM.out.symm)).1
            obtain ⟨s2, s3⟩ := own_top HSa.out.o9 ((nxtL_len F).trans HM.out.symm)
            have HXB := Aside0.mk hxb
            clear q1 q2 q3 q4 l0' l1' hbl hWa HS hxb
            by_cases hk : nl.length ≤ k
            · have hkd : decide (nl.length ≤ k) = true := by simpa using hk
              have HK := Aside0.mk hk
              clear hk
              have hcw := own_le HSa.out.o8
              have hcv := own_le HSa.out.o9
              have hcw1 : (m : Int) ≤ (c8 : Int) := by omega
              have hcv1 : (m : Int) ≤ (c9 : Int) := by omega
              have HND := Aside0.mk HWS.out.nd
              go_quiet (fail)
              obtain ⟨Wb, hWb⟩ : ∃ Wb, Wa.drewN nq = Wb := ⟨_, rfl⟩
              have HSb := Aside0.mk (HSa.out.below (pw_below_drewN (Below.refl _ _) nq))
              rw [hWb] at HSb ⊢
              have t1 := (own_top HSb.out.o8 ((stkL_len F).trans HM.out.symm)).1
              clear hWb s1 s2 s3 x2
              go_wp2_with (first | ((with_reducible refine gate_builtin (b := .append) (xs := #[.tmp 53, .tmp 58]) rfl ?_); at_builtin; refine print_append_num (w0 := Wb) (w.heap.size + 1) rfl (.tmp 53) (.tmp 58) 23 3 .i64 8 rfl Try.underlying23 info3 (by decide) (.slice A7 n7 c7) left (i : Int) rfl rfl ?aO ?aB ?aS ?aL ?_; (case aO => exact (HSb.out).o7); (case aB => exact Below.refl _ _); (case aS => exact blk_lt HSb.out.o6); (case aL => (have := HND.out; omega)); intro v1 W7 ho1 hb1 hg1 hat1; obtain ⟨A7, n7, c7, hv1, hn1⟩ : ∃ A m c, v1 = .slice A m c ∧ m = (left ++ [(i : Int)]).length := (by obtain ⟨A, c, hv⟩ := own_slice ho1; exact ⟨A, _, c, hv, rfl⟩); subst hv1; have HN7 := Aside0.mk hn1; have HSb' := Aside0.mk ((HSb.out).push7 (i : Int) ho1 hb1 hg1 hat1); clear ho1 hb1 hg1 hat1 hn1 HSb; have HSb := HSb'; clear HSb'))
              go_quiet (fail)
              go_wp2_with fail
              go_roundg K'
              case measure => omega
              case rel => exact ⟨_, _, _, _, _, _, _, _, _, seen, left ++ [(i : Int)], F, rfl, rfl, rfl, ⟨HN7.out, HM.out, HM.out⟩, ⟨(HSb.out.below (pw_below_drewN (Below.refl _ _) _)).pop ((stkL_len F).trans HM.out.symm) ((nxtL_len F).trans HM.out.symm)⟩, ⟨HWS.out.pop (by rw [← HNL.out]; exact HK.out)⟩⟩
            · have hkd : decide (nl.length ≤ k) = false := by simpa using hk
              have hlt : k < nl.length := by omega
              have HK := Aside0.mk hk
              clear hk
              go_quiet (fail)
              obtain ⟨Wb, hWb⟩ : ∃ Wb, Wa.drewN nq = Wb := ⟨_, rfl⟩
              have hbb : Below Wa.heap.size Wa Wb := by rw [← hWb]; exact pw_below_drewN (Below.refl _ _) nq
              have HSb := Aside0.mk (HSa.out.below hbb)
              rw [hWb]
              have t1 := (own_top HSb.out.o9 ((nxtL_len F).trans HM.out.symm)).1
              have t2 : Wb.cell? ⟨wr.heap.size, 2, none⟩ = some (.slice A2 nl.length c2) := pw_cell_below hbb x2
              obtain ⟨ad2, rfl, t3⟩ := Kd.at_int (Kd.C_below HC2.out HSb.out.hb) (k : Int) (by omega) (by omega)
              rw [Int.toNat_natCast] at t3
              obtain ⟨t, ht⟩ : ∃ t, t = rd nl (k : Int) := ⟨_, rfl⟩
              rw [← ht] at t3
              have hnk : (nxB l0 i)[k]? = some t := by
                rw [← HNL.out, ht, List.getElem?_eq_getElem hlt]
                unfold rd
                rw [Int.toNat_natCast, List.getD_eq_getElem?_getD, List.getElem?_eq_getElem hlt]
                rfl
              have HNK := Aside0.mk hnk
              have hk1 : (k : Int) < (nl.length : Int) := by omega
              clear hbb hWb s1 s2 s3 x2 ht hnk HSa HXB hkd
              go_upto_region 15 with (fail)
              go_quiet (fail)
              obtain ⟨Wc, hWc⟩ : ∃ Wc, Wb.drewN nq = Wc := ⟨_, rfl⟩
              have HSc := Aside0.mk (HSb.out.below (pw_below_drewN (Below.refl _ _) nq))
              rw [hWc] at HSc ⊢
              obtain ⟨u1, u2⟩ := own_top HSc.out.o9 ((nxtL_len F).trans HM.out.symm)
              clear hWc t1 t2 t3 HSb
              go_upto_region 17 with (fail)
              obtain ⟨Wd, hWd⟩ : ∃ Wd, Wc.setCell ⟨g9, m, none⟩ (.int .i64 ((k : Int) + 1)) = Wd := ⟨_, rfl⟩
              have hsd := HSc.out.next ((nxtL_len F).trans HM.out.symm) ((k : Int) + 1)
              rw [hWd] at hsd ⊢
              rw [show ((k : Int) + 1) = ((k + 1 : Nat) : Int) by omega] at hsd
              have HSd := Aside0.mk hsd
              have HLT := Aside0.mk hlt
              have HNK2 := HNK
              clear hsd hWd u1 u2 HSc hk1 hlt HNK
              by_cases hn2 : isN n t = true
              · obtain ⟨j, rfl, hj⟩ := isN_nat hn2
                have hj1 : (j : Int) < (n : Int) := by omega
                have hj0 : (0 : Int) ≤ (j : Int) := by omega
                have HIN := Aside0.mk hn2
                clear hn2
                by_cases hjw : (j : Int) = wo
                · have hjb : ((j : Int) != wo) = false := by simp [hjw]
                  have HJW := Aside0.mk hjw
                  clear hjw
                  go_wp2_with fail
                  go_roundg K'
                  case measure => omega
                  case rel => exact ⟨_, _, _, _, _, _, _, _, _, seen, left, (i, k + 1) :: F, rfl, rfl, rfl, ⟨HNN.out.1, HNN.out.2.1, HNN.out.2.2⟩, ⟨by rw [stkL_cons, nxtL_cons]; exact HSd.out⟩, ⟨HWS.out.skip (by rw [← HNL.out]; exact HLT.out) _ HNK2.out (Or.inr (Or.inl HJW.out))⟩⟩
                · have hjb : ((j : Int) != wo) = true := by simp [hjw]
                  have HJW := Aside0.mk hjw
                  clear hjw
                  obtain ⟨sj, hsj⟩ : ∃ sj, seen[j]? = some sj := ⟨_, List.getElem?_eq_getElem (by rw [HWS.out.sl]; exact hj)⟩
                  have y1 : Wd.cell? ⟨w.heap.size, j, none⟩ = some (.bool sj) := (blk_cell HSd.out.o6 j).trans (bools_get _ _ _ hsj)
                  have y2 : Wd.frozen? ⟨w.heap.size, j, none⟩ = false := blk_frozen HSd.out.o6 j
                  have HSJ := Aside0.mk hsj
                  clear hsj
                  cases sj
                  · have HSE := Aside0.mk (HSd.out.see j)
                    have HND := Aside0.mk HWS.out.nd
                    obtain ⟨We, hWe⟩ : ∃ We, Wd.setCell ⟨w.heap.size, j, none⟩ (.bool true) = We := ⟨_, rfl⟩
                    rw [hWe] at HSE
                    go_upto_region 19 with (fail)
                    clear hWe y1 y2
                    go_wp2_with (first | ((with_reducible refine gate_builtin (b := .append) (xs := #[.tmp 103, .tmp 105]) rfl ?_); at_builtin; refine print_append_num (w0 := We) (w.heap.size + 1) rfl (.tmp 103) (.tmp 105) 23 3 .i64 8 rfl Try.underlying23 info3 (by decide) (.slice (some ⟨g8, 0, none⟩) (m + 1) c8) (stkL F ++ [(i : Int)]) (j : Int) rfl rfl ?aO ?aB ?aS ?aL ?_; (case aO => exact (HSE.out).o8); (case aB => exact Below.refl _ _); (case aS => exact blk_lt HSE.out.o6); (case aL => (have := HND.out; have := HM.out; rw [List.length_append, List.length_singleton, stkL_len]; rw [List.length_cons] at *; omega)); intro v1 W8 ho1 hb1 hg1 hat1; obtain ⟨A8, n8, c8, hv1, hn1⟩ : ∃ A m c, v1 = .slice A m c ∧ m = ((stkL F ++ [(i : Int)]) ++ [(j : Int)]).length := (by obtain ⟨A, c, hv⟩ := own_slice ho1; exact ⟨A, _, c, hv, rfl⟩); subst hv1; have HN8 := Aside0.mk hn1; have HSE' := Aside0.mk ((HSE.out).push8 (j : Int) ho1 hb1 hg1 hat1); clear ho1 hb1 hg1 hat1 hn1 HSE; have HSE := HSE'; clear HSE') | ((with_reducible refine gate_builtin (b := .append) (xs := #[.tmp 107, .tmp 108]) rfl ?_); at_builtin; refine print_append_num (w0 := W8) (w.heap.size + 1) rfl (.tmp 107) (.tmp 108) 23 3 .i64 8 rfl Try.underlying23 info3 (by decide) (.slice (some ⟨g9, 0, none⟩) (m + 1) c9) (nxtL F ++ [((k + 1 : Nat) : Int)]) 0 rfl rfl ?aO ?aB ?aS ?aL ?_; (case aO => exact (HSE.out).o9); (case aB => exact Below.refl _ _); (case aS => exact blk_lt HSE.out.o6); (case aL => (have := HND.out; have := HM.out; rw [List.length_append, List.length_singleton, nxtL_len]; rw [List.length_cons] at *; omega)); intro v1 W9 ho1 hb1 hg1 hat1; obtain ⟨A9, n9, c9, hv1, hn1⟩ : ∃ A m c, v1 = .slice A m c ∧ m = ((nxtL F ++ [((k + 1 : Nat) : Int)]) ++ [0]).length := (by obtain ⟨A, c, hv⟩ := own_slice ho1; exact ⟨A, _, c, hv, rfl⟩); subst hv1; have HN9 := Aside0.mk hn1; have HSE' := Aside0.mk ((HSE.out).push9 0 ho1 hb1 hg1 hat1); clear ho1 hb1 hg1 hat1 hn1 HSE; have HSE := HSE'; clear HSE'))
                    go_roundg K'
                    case measure => omega
                    case rel => exact ⟨_, _, _, _, _, _, _, _, _, seen.set j true, left, (j, 0) :: (i, k + 1) :: F, rfl, rfl, rfl, ⟨HNN.out.1, by rw [HN8.out, List.length_append, List.length_append, stkL_len]; rfl, by rw [HN9.out, List.length_append, List.length_append, nxtL_len]; rfl⟩, ⟨by rw [stkL_cons, stkL_cons, nxtL_cons, nxtL_cons]; exact HSE.out⟩, ⟨HWS.out.visit (by rw [← HNL.out]; exact HLT.out) j HNK2.out hj HJW.out HSJ.out⟩⟩
                  · go_wp2_with fail
                    go_roundg K'
                    case measure => omega
                    case rel => exact ⟨_, _, _, _, _, _, _, _, _, seen, left, (i, k + 1) :: F, rfl, rfl, rfl, ⟨HNN.out.1, HNN.out.2.1, HNN.out.2.2⟩, ⟨by rw [stkL_cons, nxtL_cons]; exact HSd.out⟩, ⟨HWS.out.skip (by rw [← HNL.out]; exact HLT.out) _ HNK2.out (Or.inr (Or.inr ⟨j, rfl, HSJ.out⟩))⟩⟩
              · have hno : isN n t = false := by simpa using hn2
                have HNO := Aside0.mk hno
                by_cases ht0 : 0 ≤ t
                · have ht1 : decide (t < (n : Int)) = false := by
                    unfold isN at hno
                    rw [decide_eq_true ht0, Bool.true_and] at hno
                    exact hno
                  clear hno hn2
                  go_wp2_with fail
                  go_roundg K'
                  case measure => omega
                  case rel => exact ⟨_, _, _, _, _, _, _, _, _, seen, left, (i, k + 1) :: F, rfl, rfl, rfl, ⟨HNN.out.1, HNN.out.2.1, HNN.out.2.2⟩, ⟨by rw [stkL_cons, nxtL_cons]; exact HSd.out⟩, ⟨HWS.out.skip (by rw [← HNL.out]; exact HLT.out) t HNK2.out (Or.inl HNO.out)⟩⟩
                · have ht1 : decide (0 ≤ t) = false := decide_eq_false ht0
                  clear hno hn2
                  go_wp2_with fail
                  go_roundg K'
                  case measure => omega
                  case rel => exact ⟨_, _, _, _, _, _, _, _, _, seen, left, (i, k + 1) :: F, rfl, rfl, rfl, ⟨HNN.out.1, HNN.out.2.1, HNN.out.2.2⟩, ⟨by rw [stkL_cons, nxtL_cons]; exact HSd.out⟩, ⟨HWS.out.skip (by rw [← HNL.out]; exact HLT.out) t HNK2.out (Or.inl HNO.out)⟩⟩
theorem pianolaref08_Walk.calls (A0 : Option Addr) (c0 : Nat) (l0 : List S30) (a1 : Int) (r1 : List Bool) (r2 : List Int) (w : World) (hr0 : Kd.C k30 w A0 l0.length l0) (hc0 : l0.length ≤ c0) (h : pianolaref08_Walk.f l0 a1 = some (r1, r2)) :
    Calls Try.prog 19 #[.slice A0 l0.length c0, .int .i64 a1] w fun e w' => ∃ v0_ v1_ : Value, e = .returned (.tuple #[v0_, v1_]) ∧ Kd.R Kd.bool 4 w' w.heap.size (fun _ => True) v0_ r1 ∧ Kd.R (Kd.int .i64) 3 w' w.heap.size (fun _ => True) v1_ r2 ∧ Below w.heap.size w w' := by
  unfold pianolaref08_Walk.f at h
  split at h
  · rename_i hb
    have e := Option.some.inj h
    have := walk_walk A0 c0 l0 l0.length rfl a1 w hr0 hc0 hb
    rw [e] at this
    exact this
  · exact absurd h (by simp)

end Go.Proofs.Ytpfbfnbffglbkaa.P
