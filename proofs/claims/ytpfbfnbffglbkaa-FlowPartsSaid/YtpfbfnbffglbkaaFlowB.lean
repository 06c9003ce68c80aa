/- flow.Order's own function: a walk; no statement of the seat. -/
import Derived.Test.YtpfbfnbffglbkaaFlowA
set_option linter.unusedVariables false
set_option linter.unusedSimpArgs false
namespace Go.Proofs.Ytpfbfnbffglbkaa.P
open Go.RowKit Go.Proofs.YtpfbfnbffglbkaaW.PrintWords Go.Proofs.YtpfbfnbffglbkaaW.PrintLast Go.Proofs.YtpfbfnbffglbkaaW.PrintMore
theorem is_isN (b : List S30) (t : Int) : flow_is.f b t = some (isN b.length t) := by
  unfold flow_is.f isN
  by_cases h : t ≥ 0
  · rw [if_pos h, decide_eq_true (show 0 ≤ t from h), Bool.true_and]
  · rw [if_neg h, decide_eq_false (show ¬ 0 ≤ t from h), Bool.false_and]
theorem is_run (b : List S30) (n : Nat) (hn : b.length = n) (Ab : Option Addr) (cb : Nat) (hcb : n ≤ cb) (W : World) (hB : Kd.C k30 W Ab n b) (t : Int) : Calls Try.prog 40 #[.slice Ab n cb, .int .i64 t] W fun e w' => e = .returned (.bool (isN n t)) ∧ ∃ m, w' = W.drewN m := by
  subst hn
  exact (flow_is.calls Ab cb b t (isN b.length t) W hB hcb (is_isN b t)).mono fun e w' h => ⟨h.1, h.2.out⟩
def nxB (b : List S30) (i : Nat) : List Int := (rd_T30 b (i : Int)).f2
def VP (w : World) (n : Nat) (Ab : Option Addr) (cb : Nat) (r : List Bool × List Int) (e : Ending) (w' : World) : Prop := e = .returned (.tuple #[]) ∧ OI w w' n Ab cb r.1 r.2
theorem bools_get (l : List Bool) (i : Nat) (b : Bool) (h : l[i]? = some b) : (bools l).toArray[i]? = some (.bool b) := by
  unfold bools
  rw [List.getElem?_toArray, List.getElem?_map, h]
  rfl
set_option maxRecDepth 100000 in
set_option maxHeartbeats 8000000 in
theorem visit_run (w : World) (b : List S30) (n : Nat) (hn : b.length = n) (Ab : Option Addr) (cb : Nat) (hcb : n ≤ cb) (hB : Kd.C k30 w Ab n b) (hmx : n ≤ 3600000000000) : ∀ (f : Nat) (W : World) (i : Nat) (st : List Bool × List Int), OI w W n Ab cb st.1 st.2 → i < n → st.1[i]? = some false → unseen st.1 ≤ f → st.2.length + unseen st.1 ≤ n →
    Calls Try.prog 39 #[.int .i64 (i : Int), .pointer (some ⟨w.heap.size + 2, 0, none⟩), .pointer (some ⟨w.heap.size, 0, none⟩), .pointer (some ⟨w.heap.size + 4, 0, none⟩), .pointer (some ⟨w.heap.size + 3, 0, none⟩)] W (VP w n Ab cb (vis (nxB b) n f i st))
  | 0, W, i, st, hO, hi, hf, hu, hl => by
    have := unseen_set st.1 i hf
    omega
  | f + 1, W, i, st, hO, hi, hf, hu, hl => by
    have ih := visit_run w b n hn Ab cb hcb hB hmx f
    have IH := Aside0.mk ih
    have hsn := unseen_set st.1 i hf
    have hO1 := hO.see i
    have hvis := vis_succ (nxB b) n f i st
    have HV := Aside0.mk hvis
    have q0 : W.cell? ⟨w.heap.size + 2, 0, none⟩ = some (.slice (some ⟨w.heap.size + 1, 0, none⟩) n n) := blk_cell hO.sb 0
    have q1 : W.cell? ⟨w.heap.size + 1, i, none⟩ = some (.bool false) := by rw [blk_cell hO.sa i]; exact bools_get _ _ _ hf
    have q2 : W.frozen? ⟨w.heap.size + 1, i, none⟩ = false := blk_frozen hO.sa i
    obtain ⟨W1, hW1⟩ : ∃ W1, W.setCell ⟨w.heap.size + 1, i, none⟩ (.bool true) = W1 := ⟨_, rfl⟩
    rw [hW1] at hO1
    have q3 : W1.cell? ⟨w.heap.size, 0, none⟩ = some (.slice Ab n cb) := blk_cell hO1.bb 0
    obtain ⟨ad, A2, c2, rfl, _, _, q4w, hc2, hC2⟩ := at_T30 hB (i : Int) (by omega) (by omega)
    have q4 := pw_cell_below hO1.hb q4w
    obtain ⟨nl, hnl⟩ : ∃ nl, nl = nxB b i := ⟨_, rfl⟩
    have hnl' : (rd_T30 b (i : Int)).f2 = nl := hnl.symm
    rw [hnl', Int.toNat_natCast] at q4
    rw [hnl'] at hc2 hC2
    have hmx2 := Kd.C_max hC2
    rw [← hnl] at HV
    have HO1 := Aside0.mk hO1
    have HC2 := Aside0.mk (show Kd.C (Kd.int .i64) w A2 nl.length nl from hC2)
    have HB := Aside0.mk hB
    have HW1 := Aside0.mk hW1
    have HI := Aside0.mk (And.intro hu hl)
    have hin : (i : Int) < (n : Int) := by omega
    have SN := Aside0.mk hsn
    clear q4w ih hO1 hvis hnl hnl' hC2 hB hu hl hf hsn hO
    go_enter Try.func39, Try.ntmps39
    go_wp2_with fail
    go_loopw [17] (fun v17 wr => ∃ (k : Nat) (s : List Bool × List Int), v17 = .int .i64 k ∧ k ≤ nl.length ∧ OI w wr n (some ad) cb s.1 s.2 ∧ unseen s.1 ≤ f ∧ s.2.length + 1 + unseen s.1 ≤ n ∧ (nl.drop k).foldl (goV (nxB b) n f) s = nl.foldl (goV (nxB b) n f) (st.1.set i true, st.2)) (fun v17 _ => nl.length - (intOf v17).toNat)
    case atStart => exact ⟨0, (st.1.set i true, st.2), rfl, Nat.zero_le _, HO1.out, by have := SN.out; have := HI.out; dsimp only; omega, by have := SN.out; have := HI.out; dsimp only; omega, rfl⟩
    case round =>
      obtain ⟨k, s, rfl, hk, hO, hu, hl, hgo⟩ := hrel
      have HO := Aside0.mk hO
      have HU := Aside0.mk (And.intro hu hl)
      have HG := Aside0.mk hgo
      clear hO hu hl hgo
      by_cases hlt : k < nl.length
      · have hi1 : (k : Int) < (nl.length : Int) := by omega
        obtain ⟨ad2, rfl, hc⟩ := Kd.at_int (Kd.C_below HC2.out HO.out.hb) (k : Int) (by omega) (by omega)
        rw [Int.toNat_natCast] at hc
        obtain ⟨t, ht⟩ : ∃ t, t = rd nl (k : Int) := ⟨_, rfl⟩
        rw [← ht] at hc
        have hdrop : nl.drop k = t :: nl.drop (k + 1) := by
          rw [List.drop_eq_getElem_cons hlt, ht]
          unfold rd
          rw [Int.toNat_natCast, List.getD_eq_getElem?_getD, List.getElem?_eq_getElem hlt]
          rfl
        have hstep : (nl.drop (k + 1)).foldl (goV (nxB b) n f) (goV (nxB b) n f s t) = nl.foldl (goV (nxB b) n f) (st.1.set i true, st.2) := by
          have := HG.out
          rw [hdrop, List.foldl_cons] at this
          exact this
        have hvk := goV_ok (nxB b) n f s HO.out.sl HU.out.1 t
        have HST := Aside0.mk hstep
        have HVK := Aside0.mk hvk
        have r0 : wr.cell? ⟨w.heap.size, 0, none⟩ = some (.slice (some ad) n cb) := blk_cell HO.out.bb 0
        have r1 : wr.cell? ⟨w.heap.size + 2, 0, none⟩ = some (.slice (some ⟨w.heap.size + 1, 0, none⟩) n n) := blk_cell HO.out.sb 0
        clear ht hdrop hstep hvk
        have his := is_isN b t
        rw [hn] at his
        have HIS := Aside0.mk his
        have HNB := Aside0.mk hn
        clear his hn
        by_cases hin2 : isN n t = true
        · obtain ⟨j, rfl, hj⟩ := isN_nat hin2
          have hj1 : (j : Int) < (n : Int) := by omega
          obtain ⟨sj, hsj⟩ : ∃ sj, s.1[j]? = some sj := ⟨_, List.getElem?_eq_getElem (by rw [HO.out.sl]; exact hj)⟩
          have r2 : wr.cell? ⟨w.heap.size + 1, j, none⟩ = some (.bool sj) := by rw [blk_cell HO.out.sa j]; exact bools_get _ _ _ hsj
          have r3 : wr.cell? ⟨w.heap.size + 4, 0, none⟩ = _ := blk_cell HO.out.vb 0
          have HSJ := Aside0.mk hsj
          have HIN := Aside0.mk hin2
          clear hsj hin2
          cases sj
          · have hgv : goV (nxB b) n f s (j : Int) = vis (nxB b) n f j s := by
              unfold goV
              rw [if_pos]
              · rw [Int.toNat_natCast]
              · rw [HIN.out, Int.toNat_natCast, List.getD_eq_getElem?_getD, HSJ.out]; rfl
            have HGV := Aside0.mk hgv
            clear hgv
            go_wp2_with fail
            refine (is_run b n HNB.out (some ad) cb hcb wr (Kd.C_below HB.out HO.out.hb) (j : Int)).mono ?_
            rintro e w2 ⟨rfl, ⟨m2, rfl⟩⟩
            rw [HIN.out]
            go_wp2_with fail
            refine (IH.out (wr.drewN m2) j s (HO.out.drewN m2) hj HSJ.out HU.out.1 (by have := HU.out.2; omega)).mono ?_
            rintro e w3 ⟨rfl, hO3⟩
            have HO3 := Aside0.mk hO3
            clear hO3
            go_wp2_with fail
            go_roundw
            case rel =>
              have h1 := HVK.out
              have h2 := HST.out
              have h3 := HU.out
              rw [HGV.out] at h1 h2
              exact ⟨k + 1, vis (nxB b) n f j s, by go_num, by omega, HO3.out, Nat.le_trans h1.less h3.1, by have := h1.sum; omega, h2⟩
            case measure => simp only [intOf]; omega
          · have hgv : goV (nxB b) n f s (j : Int) = s := by
              unfold goV
              rw [if_neg]
              rw [HIN.out, Int.toNat_natCast, List.getD_eq_getElem?_getD, HSJ.out]; simp
            have HGV := Aside0.mk hgv
            clear hgv
            go_wp2_with fail
            refine (is_run b n HNB.out (some ad) cb hcb wr (Kd.C_below HB.out HO.out.hb) (j : Int)).mono ?_
            rintro e w2 ⟨rfl, ⟨m2, rfl⟩⟩
            rw [HIN.out]
            go_wp2_with fail
            go_roundw
            case rel =>
              have h2 := HST.out
              rw [HGV.out] at h2
              exact ⟨k + 1, s, by go_num, by omega, HO.out.drewN m2, HU.out.1, HU.out.2, h2⟩
            case measure => simp only [intOf]; omega
        · have hno : isN n t = false := by simpa using hin2
          have hgv : goV (nxB b) n f s t = s := by
            unfold goV
            rw [if_neg]
            rw [hno]; simp
          have HGV := Aside0.mk hgv
          have HNO := Aside0.mk hno
          clear hgv hno hin2
          go_wp2_with fail
          refine (is_run b n HNB.out (some ad) cb hcb wr (Kd.C_below HB.out HO.out.hb) t).mono ?_
          rintro e w2 ⟨rfl, ⟨m2, rfl⟩⟩
          rw [HNO.out]
          go_wp2_with fail
          go_roundw
          case rel =>
            have h2 := HST.out
            rw [HGV.out] at h2
            exact ⟨k + 1, s, by go_num, by omega, HO.out.drewN m2, HU.out.1, HU.out.2, h2⟩
          case measure => simp only [intOf]; omega
      · have hi1 : ¬ (k : Int) < (nl.length : Int) := by omega
        have hfin : s = nl.foldl (goV (nxB b) n f) (st.1.set i true, st.2) := by
          have := HG.out
          rw [List.drop_eq_nil_of_le (by omega)] at this
          exact this
        rw [← hfin] at HV
        have HV2 := Aside0.mk HV.out
        clear HV hfin
        obtain ⟨v, hv, ho⟩ := HO.out.lb
        obtain ⟨A3, c3, rfl⟩ := own_slice ho
        have HV3 := Aside0.mk hv
        have HO3 := Aside0.mk ho
        have hlt5 := HO.out.lt
        have r5 : wr.cell? ⟨w.heap.size + 3, 0, none⟩ = some (.slice A3 s.2.length c3) := blk_cell hv 0
        clear hv ho
        go_wp2_with ((with_reducible refine gate_builtin (b := .append) (xs := #[.tmp 35, .tmp 37]) rfl ?_); at_builtin; refine print_append_num (w0 := wr) (w.heap.size + 5) rfl (.tmp 35) (.tmp 37) 23 3 .i64 8 rfl Try.underlying23 info3 (by decide) (.slice A3 s.2.length c3) s.2 (i : Int) rfl rfl ?aO ?aB ?aS ?aL ?_; (case aO => exact HO3.out); (case aB => exact Below.refl _ _); (case aS => omega); (case aL => have := HU.out.2; omega); intro v1 w1 ho1 hb1 hg1 hat1; obtain ⟨A4, c4, hv4⟩ : ∃ A4 c4, v1 = .slice A4 (s.2.length + 1) c4 := (by obtain ⟨A4, c4, hv4⟩ := own_slice ho1; exact ⟨A4, c4, by rw [hv4]; simp⟩); subst hv4; have f5 : w1.cell? ⟨w.heap.size + 3, 0, none⟩ = some (.slice A3 s.2.length c3) := blk_cell ((hb1.block _ (by omega)).trans HV3.out) 0; have f6 : w1.frozen? ⟨w.heap.size + 3, 0, none⟩ = false := blk_frozen ((hb1.block _ (by omega)).trans HV3.out) 0; have HO1 := Aside0.mk ho1; have HB1 := Aside0.mk hb1; clear ho1 hb1 hg1 hat1)
        go_end0
        have hfin := HO.out.leave HV3.out (.slice A4 (s.2.length + 1) c4) (i : Int) HB1.out HO1.out
        refine ⟨rfl, ?_⟩
        rw [HV2.out]
        exact hfin
end Go.Proofs.Ytpfbfnbffglbkaa.P
