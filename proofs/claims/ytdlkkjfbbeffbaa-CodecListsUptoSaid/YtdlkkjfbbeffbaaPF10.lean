/- Ytdlkkjfbbeffbaa: what Go functions come to, and that they do: walks, printed by a program of this session or typed by hand; no statement of the seat stands here. -/
import Derived.Test.YtdlkkjfbbeffbaaP0
import Derived.Test.YtdlkkjfbbeffbaaPF16
import Derived.Test.YtdlkkjfbbeffbaaCodecT
import Derived.Test.YtdlkkjfbbeffbaaPF16
namespace Go.Proofs.Ytdlkkjfbbeffbaa.P
open Go.RowKit Go.Proofs.YtdlkkjfbbeffbaaW.PrintWords Go.Proofs.YtdlkkjfbbeffbaaW.PrintLast Go.Proofs.YtdlkkjfbbeffbaaW.PrintMore
attribute [local go_sem] max2_int min2_int max_two min_two max_three min_three max_four min_four   -- for this text's walks alone
set_option linter.unusedVariables false
set_option linter.unusedSimpArgs false


/-! ### pianolalaw01_CodecLists: function 10 -/
-- IMPORT Derived.Test.YtdlkkjfbbeffbaaCodecT
-- IMPORT Derived.Test.YtdlkkjfbbeffbaaPF16
/-- What the law asks of its inputs; the numbers' and blobs' count is what the bound gives. -/
def okLists (l0 : List Int) (l1 : List (List Int)) : Bool := okInts l0 && l1.all okBytes && decide (l0.length ≤ 1048576) && decide (l1.length ≤ 1048576)
theorem okLists_blob {l0 : List Int} {l1 : List (List Int)} (h : okLists l0 l1 = true) (k : Nat) : okL (l1.getD k []) := by
  unfold okLists at h
  simp only [Bool.and_eq_true, List.all_eq_true] at h
  rw [List.getD_eq_getElem?_getD]
  by_cases hk : k < l1.length
  · rw [List.getElem?_eq_getElem hk]
    exact okBytes_is (h.1.1.2 _ (List.getElem_mem hk))
  · rw [List.getElem?_eq_none (by omega)]
    exact ⟨by intro y hy; simp at hy, by simp⟩
theorem zip_ok {l0 : List Int} {l1 : List (List Int)} (h : okLists l0 l1 = true) : ∀ p ∈ l0.zip l1, okB p.2 := by
  intro p hp
  unfold okLists at h
  simp only [Bool.and_eq_true, List.all_eq_true] at h
  exact (okBytes_is (h.1.1.2 _ (List.of_mem_zip (a := p.1) (b := p.2) hp).2)).1
def pianolalaw01_CodecLists.f (l0 : List Int) (l1 : List (List Int)) : Option Bool := if okLists l0 l1 = true then some true else none
set_option maxRecDepth 100000 in
set_option maxHeartbeats 8000000 in
theorem pianolalaw01_CodecLists.calls (A0 : Option Addr) (c0 : Nat) (l0 : List Int) (A1 : Option Addr) (c1 : Nat) (l1 : List (List Int)) (r : Bool) (w : World) (hr0 : Kd.C (Kd.int .i64) w A0 l0.length l0) (hc0 : l0.length ≤ c0) (hr1 : Kd.C (Kd.slice 5 (Kd.int .u8)) w A1 l1.length l1) (hc1 : l1.length ≤ c1) (h : pianolalaw01_CodecLists.f l0 l1 = some r) :
    Calls Try.prog 10 #[.slice A0 l0.length c0, .slice A1 l1.length c1] w fun e w' => e = .returned (.bool r) ∧ Below w.heap.size w w' := by
  have hok : okLists l0 l1 = true := by
    unfold pianolalaw01_CodecLists.f at h
    split at h
    · assumption
    · cases h
  obtain rfl : r = true := by
    unfold pianolalaw01_CodecLists.f at h
    rw [if_pos hok] at h
    exact (Option.some.inj h).symm
  have HOK := Aside0.mk hok
  have HR0 := Aside0.mk hr0
  have HR1 := Aside0.mk hr1
  have hm0 : l0.length ≤ 1048576 := by
    unfold okLists at hok
    simp only [Bool.and_eq_true, decide_eq_true_eq] at hok
    exact hok.1.2
  have hm1 : l1.length ≤ 1048576 := by
    unfold okLists at hok
    simp only [Bool.and_eq_true, decide_eq_true_eq] at hok
    exact hok.2
  clear h hok hr0 hr1
  obtain ⟨ps, hps⟩ : ∃ ps, ps = l0.zip l1 := ⟨_, rfl⟩
  have HPS := Aside0.mk hps
  have HPL := Aside0.mk (show ps.length = min l0.length l1.length by rw [hps, List.length_zip])
  clear hps
  go_enter Try.func10, Try.ntmps10
  by_cases hmin : l1.length < l0.length
  · obtain ⟨m, hm⟩ : ∃ m, m = l1.length := ⟨_, rfl⟩
    have hml : ps.length = m := by rw [HPL.out, hm]; omega
    have hle0 : m ≤ l0.length := by omega
    have hle1 : m ≤ l1.length := by omega
    go_wp2_with fail
    rw [← hm]
    clear hm hmin
    have HML := Aside0.mk hml
    clear hml
    go_wp2_with fail
    refine (rmany_run w.heap.size w.heap.size (.slice none 0 0) [] 0 (m : Int) (w.alloc (.cells #[.slice none 0 0, .bool false, .bool false] 52)) ⟨Nat.le_refl _, blk_new w _, Kd.R_nil _ _ _ _ _, .inl rfl⟩ (by simp only [World.size_alloc]; omega) (by simp)).mono ?_
    rintro r w1 ⟨rfl, ⟨v1, hO1⟩, hb1, hk1⟩
    have HO1 := Aside0.mk hO1
    have HB1 := Aside0.mk (show Below w.heap.size w w1 from (below_alloc (Below.refl _ _) _).trans hb1)
    clear hO1 hb1 hk1
    go_wp2_with fail
    go_loopw [6, 8] (fun v6 v8 wr => ∃ k : Nat, v8 = .int .i64 k ∧ k ≤ m ∧ Kd.N kP 100 wr w.heap.size (fun b => b ≠ w.heap.size) v6 (ps.take k) ∧ (∃ v, ROK wr w.heap.size w.heap.size v ((ps.take k).foldl (bothS 2 65535) (numS ([], 0) 2 4096 (m : Int))).1 ((ps.take k).foldl (bothS 2 65535) (numS ([], 0) 2 4096 (m : Int))).2) ∧ Below w.heap.size w wr) (fun _ v8 _ => m - (intOf v8).toNat)
    case atStart => exact ⟨0, rfl, Nat.zero_le _, Kd.N_nil _ _ _ _ _, ⟨v1, HO1.out⟩, HB1.out⟩
    case round =>
      obtain ⟨k, rfl, hk, hN, ⟨vo, hO⟩, hb⟩ := hrel
      obtain ⟨A6, c6, hv6⟩ := Kd.N_slice hN
      subst hv6
      have hlt6 : (ps.take k).length = k := by rw [List.length_take, HML.out]; omega
      rw [hlt6]
      rw [hlt6] at hN
      have HT6 := Aside0.mk hlt6
      have HN := Aside0.mk hN
      have HO := Aside0.mk hO
      have HB := Aside0.mk hb
      have hz := hb.size
      have hlp : w.heap.size < wr.heap.size := blk_lt hO.blk
      clear hN hO hb hlt6
      by_cases hlt : k < m
      · as_aux_lemma =>
          obtain ⟨ad, hA0, hc0'⟩ := Kd.at_int HR0.out (k : Int) (by omega) (by omega)
          obtain ⟨ae, Ab, cb, hA1, hd0', hlc, hCb⟩ := at_blobs HR1.out k (by omega)
          rw [Int.toNat_natCast] at hc0'
          subst hA0 hA1
          have hst := zip_step l0 l1 k (by rw [← HPS.out, HML.out]; exact hlt)
          rw [← HPS.out] at hst
          have hob := okLists_blob HOK.out k
          obtain ⟨x, hx⟩ : ∃ x, x = rd l0 (k : Int) := ⟨_, rfl⟩
          obtain ⟨ys, hys⟩ : ∃ ys, ys = l1.getD k [] := ⟨_, rfl⟩
          rw [← hx, ← hys] at hst
          rw [← hx] at hc0'
          rw [← hys] at hd0' hlc hCb hob
          have HC0 := Aside0.mk hc0'
          have HD0 := Aside0.mk hd0'
          have hc := pw_cell_below HB.out hc0'
          have hd := pw_cell_below HB.out hd0'
          have HST := Aside0.mk hst
          have HCB := Aside0.mk hCb
          have HOB := Aside0.mk hob
          have HLC := Aside0.mk hlc
          clear hst hCb hob hlc hx hys hc0' hd0'
          have hk0 : k < l0.length := by omega
          have hk1 : k < l1.length := by omega
          go_upto_region 10 with (fail)
          go_region_held3 (fun w' => w'.cell? (ad.add k) = some (.int .i64 x) ∧ w'.cell? (ae.add k) = some (.slice Ab ys.length cb)) (go_keep) (first
            | (refine Kd.N_append_rows_step kP (w0 := w) w.heap.size rfl (.tmp 33) (.tmp 43) 98 100 (.agg #[.int .i64 0, .slice none 0 0]) 32 rfl Try.underlying98 (by kernel_rfl) rfl (by decide) (by decide) (.slice A6 k c6) (ps.take k) [(x, ys)] (some ⟨wr.heap.size, 0, none⟩) 1 1 (fun b => b ≠ w.heap.size) (fun b => b < w.heap.size ∨ b = wr.heap.size) ?h1 ?h2 ?aO ?aR ?ak ?af ?aB ?aS ?aL ?_; (case h1 => first | rfl | simp [Act.eval, Act.put]); (case h2 => first | rfl | simp [Act.eval, Act.put]); (case aO => (with_reducible repeat (first | apply Kd.N_drewN | apply Kd.N_drew | apply Kd.N_alloc)); exact HN.out); (case aR => (with_reducible repeat (first | apply Kd.F_drewN | apply Kd.F_drew)); exact pair_F w wr x Ab cb ys HB.out HCB.out HLC.out); (case ak => exact pair_ok HN.out hlp); (case af => intro b hb2; have hq : wr.heap.size ≤ b := Nat.le_trans (below_size (by repeat (first | exact Below.refl _ _ | apply below_alloc | apply pw_below_drewN | apply below_drew1))) hb2; omega); (case aB => repeat (first | (with_reducible first | exact HB.out | apply below_alloc | apply pw_below_drewN | apply below_drew1) | exact HB.out)); (case aL => rw [HT6.out]; omega); (case aS => exact below_size (by repeat (first | (with_reducible first | exact HB.out | apply below_alloc | apply pw_below_drewN | apply below_drew1) | exact HB.out))); intro v1 w1 ho hb1 hg hat; have HX := Aside0.mk (And.intro ho (And.intro hb1 (ROK.grown (ROK.below HO.out (by repeat (first | exact Below.refl _ _ | apply below_alloc | apply pw_below_drewN | apply below_drew1))) (by (with_reducible repeat (first | apply Kd.N_drewN | apply Kd.N_drew | apply Kd.N_alloc)); exact HN.out) hg))); have g0 := pw_cell_below hb1 HC0.out; have g1 := pw_cell_below hb1 HD0.out; clear ho hb1 hg hat))
          have hlen := foldP_len (ps.take k) (numS ([], 0) 2 4096 (m : Int)) (numS_len _ 2 4096 _ (by simp))
          have HLN := Aside0.mk hlen
          clear hlen
          go_wp2_with fail
          refine (rshort_run w.heap.size w.heap.size vo _ _ x w1 HX.out.2.2 HX.out.2.1.size HLN.out).mono ?_
          rintro r w2 ⟨rfl, ⟨v2, hO2⟩, hb2, hk2⟩
          have HO2 := Aside0.mk hO2
          have HB2 := Aside0.mk (HX.out.2.1.trans hb2)
          have HN2 := Aside0.mk (Kd.N_keep HX.out.1 hk2 (fun _ h => h))
          have g2 := pw_cell_below HB2.out HD0.out
          clear hO2 hb2 hk2 g0 g1
          go_wp2_with fail
          refine (rblob_run w w.heap.size v2 _ _ Ab cb ys w2 HO2.out HCB.out HB2.out (numS_len _ 2 65535 x HLN.out)).mono ?_
          rintro r w3 ⟨rfl, ⟨v3, hO3⟩, hb3, hk3⟩
          have HO3 := Aside0.mk hO3
          have HB3 := Aside0.mk (HB2.out.trans hb3)
          have HN3 := Aside0.mk (Kd.N_keep HN2.out hk3 (fun _ h => h))
          clear hO3 hb3 hk3 g2
          go_wp2_with fail
          go_roundw
          case rel =>
            refine ⟨k + 1, by go_num, by omega, ?_, ⟨v3, ?_⟩, HB3.out⟩
            · rw [HST.out]; exact HN3.out
            · rw [HST.out, List.foldl_append]; exact HO3.out
          case measure => simp [intOf]; omega
      · as_aux_lemma =>
          have hkm : m = k := by omega
          subst hkm
          have hall : ps.take m = ps := List.take_of_length_le (by have := HML.out; omega)
          have hS : manyS (bothS 2 65535) ([], 0) ps = ps.foldl (bothS 2 65535) (numS ([], 0) 2 4096 (m : Int)) := by
            unfold manyS
            rw [manyGo_fold _ (bothS_stop 2 65535), HML.out]
          obtain ⟨bs, e, hbe⟩ : ∃ bs e, manyS (bothS 2 65535) ([], 0) ps = (bs, e) := ⟨_, _, rfl⟩
          have HS := Aside0.mk hbe
          have HO0 := Aside0.mk (show ROK wr w.heap.size w.heap.size vo bs e by have h := HO.out; rw [hall, ← hS, hbe] at h; exact h)
          have HC0 := Aside0.mk (show Kd.C kP wr A6 ps.length ps by have h := HN.out; rw [hall] at h; exact (Kd.N_reads' h).2.2)
          clear HN HO hall hS hbe HT6
          go_wp2_with fail
          refine (short_run wr).mono ?_
          rintro r wa ⟨s1, s2, rfl, hf, hb⟩
          have HFa := Aside0.mk hf
          have HBa := Aside0.mk (below_step HB.out hb)
          have HCa := Aside0.mk (Kd.C_below HC0.out hb)
          have HOa := Aside0.mk (ROK.below HO0.out hb)
          clear hf hb
          simp only [numV]
          go_wp2_with fail
          refine (blob_make wa).mono ?_
          rintro r wb ⟨bk, e1, e2, rfl, hf, hb⟩
          have HGb := Aside0.mk hf
          have HFb := Aside0.mk (HFa.out.below hb)
          have HBb := Aside0.mk (below_step HBa.out hb)
          have HCb := Aside0.mk (Kd.C_below HCa.out hb)
          have HOb := Aside0.mk (ROK.below HOa.out hb)
          clear hf hb HFa HBa
          simp only [blobV]
          go_wp2_with fail
          refine (both_make _ _ _ _ wb).mono ?_
          rintro r wc ⟨rfl, hq1, hq2, hb⟩
          have HTc := Aside0.mk (show BothF wc wb.heap.size (wb.heap.size + 1) s1 s2 2 65535 bk e1 e2 from ⟨hq1, HFb.out.below hb, hq2, HGb.out.below hb⟩)
          have HBc := Aside0.mk (below_step HBb.out hb)
          have HCc := Aside0.mk (Kd.C_below HCb.out hb)
          have HOc := Aside0.mk (ROK.below HOb.out hb)
          clear hq1 hq2 hb HFb HGb HBb
          simp only [bothV]
          go_wp2_with fail
          refine (many_P _ _ _ _ rfl rfl wc).mono ?_
          rintro r wd ⟨bc, bf, k1, k2, rfl, hM, hb⟩
          obtain ⟨ba, hba⟩ : ∃ ba, ba = wb.heap.size := ⟨_, rfl⟩
          obtain ⟨bb, hbb⟩ : ∃ bb, bb = wb.heap.size + 1 := ⟨_, rfl⟩
          have hbl : Below wd.heap.size wd (wd.alloc (.cells (manyPV bc bf) 104)) := below_alloc (Below.refl _ _) _
          have hM0 : ManyF wd bc bf k1 k2 109 (bothV ba bb) := by rw [hba, hbb]; exact hM
          have hT0 : BothF wc ba bb s1 s2 2 65535 bk e1 e2 := by rw [hba, hbb]; exact HTc.out
          obtain ⟨q, hq⟩ : ∃ q, q = wd.heap.size := ⟨_, rfl⟩
          obtain ⟨we, hwe⟩ : ∃ we, we = wd.alloc (.cells (manyPV bc bf) 104) := ⟨_, rfl⟩
          have hnew := blk_new wd (.cells (manyPV bc bf) 104)
          rw [← hwe] at hbl hnew
          rw [← hq] at hnew
          have HMe := Aside0.mk (hM0.below hbl)
          have HTe := Aside0.mk ((hT0.below hb).below hbl)
          have HBe := Aside0.mk (below_step (below_step HBc.out hb) hbl)
          have HNe := Aside0.mk hnew
          have HWe := Aside0.mk (And.intro hq hwe)
          have HCd := Aside0.mk (Kd.C_below HCc.out hb)
          have HCe := Aside0.mk (Kd.C_below HCd.out hbl)
          have HOd := Aside0.mk (ROK.below HOc.out hb)
          have HOe := Aside0.mk (ROK.below HOd.out hbl)
          clear hM hM0 hT0 hb hbl hnew hq hwe HTc HBc hba hbb
          simp only [manyPV]
          go_wp2_with fail
          rw [show wd.alloc (.cells #[.func (.func 81) #[] #[.pointer (some ⟨bc, 0, none⟩), .pointer (some ⟨bf, 0, none⟩)], .func (.func 82) #[] #[.pointer (some ⟨bc, 0, none⟩), .pointer (some ⟨bf, 0, none⟩)]] 104) = we from HWe.out.2.symm]
          try rw [← HWe.out.1]
          have h1 := enc_P we bc bf k1 k2 ba bb s1 s2 2 65535 bk e1 e2 A6 c6 ps HMe.out HTe.out HCe.out
          rw [HS.out] at h1
          rcases HO0.out.es with rfl | rfl | rfl
          · have HBO := Aside0.mk (lists_ok ps bs HS.out (by rw [HPS.out]; exact zip_ok HOK.out))
            have HRT := Aside0.mk (lists_round ps bs HS.out)
            rw [show encR (bs, 0) = (bs, 0) from rfl] at h1
            rw [HML.out] at h1
            refine h1.mono ?_
            rintro r wf ⟨A4, c4, rfl, hC4, hl4, hb⟩
            have HC4 := Aside0.mk hC4
            have HL4 := Aside0.mk hl4
            have HOf := Aside0.mk (HOe.out.below hb)
            have HMf := Aside0.mk (HMe.out.below hb)
            have HTf := Aside0.mk (HTe.out.below hb)
            have HNf := Aside0.mk (blk_below HNe.out hb)
            have HBf := Aside0.mk (below_step HBe.out hb)
            clear h1 hC4 hl4 hb HOe HMe HTe HNe HBe HCe
            dsimp only [List.length_nil]
            go_wp2_with fail
            refine (pianolalaw01_lives.calls true _ rfl).mono ?_
            rintro r wg ⟨rfl, hb⟩
            have HCg := Aside0.mk (Kd.C_below HC4.out hb)
            have HOg := Aside0.mk (HOf.out.below hb)
            have HMg := Aside0.mk (HMf.out.below hb)
            have HTg := Aside0.mk (HTf.out.below hb)
            have hng := blk_below HNf.out hb
            have HBg := Aside0.mk (below_step HBf.out hb)
            have d0 : wg.cell? ⟨q, 0, none⟩ = some (.func (.func 81) #[] #[.pointer (some ⟨bc, 0, none⟩), .pointer (some ⟨bf, 0, none⟩)]) := blk_cell hng 0
            have d1 : wg.cell? ⟨q, 1, none⟩ = some (.func (.func 82) #[] #[.pointer (some ⟨bc, 0, none⟩), .pointer (some ⟨bf, 0, none⟩)]) := blk_cell hng 1
            have HNg := Aside0.mk hng
            clear hb hng HC4 HOf HMf HTf HNf HBf
            go_wp2_with fail
            with_reducible refine (why_run _ _ _ _ _ _ HOg.out).mono ?_
            rintro r wh ⟨rfl, rfl⟩
            go_wp2_with fail
            have h1 := dec_P wh bc bf k1 k2 ba bb s1 s2 2 65535 bk e1 e2 HMg.out HTg.out A4 c4 bs HCg.out HL4.out HBO.out
            rw [HRT.out] at h1
            refine h1.mono ?_
            rintro r wi ⟨vx, rfl, hRx, hb⟩
            obtain ⟨Ax, cx, hvx, _, hCx⟩ := Kd.R_reads hRx
            subst hvx
            have HCX := Aside0.mk hCx
            have HCi := Aside0.mk (Kd.C_below HCg.out hb)
            have hOi := HOg.out.below hb
            have HBi := Aside0.mk (below_step HBg.out hb)
            obtain ⟨A3, c3, hv3⟩ := Kd.R_slice hOi.own
            subst hv3
            have e0 : wi.cell? ⟨w.heap.size, 0, none⟩ = some (.slice A3 bs.length c3) := blk_cell hOi.blk 0
            have v0 : ∀ nq, (convert 40 9 (.slice A4 bs.length c4)).run Try.prog (wi.drewN nq) = .ok (.string (strOfNums bs)) (wi.drewN nq) := fun nq => Kd.C_string Try.underlying40 Try.underlying5 Try.underlying9 (Kd.C_drewN HCi.out nq)
            have v1 : ∀ nq, (convert 40 9 (.slice A3 bs.length c3)).run Try.prog (wi.drewN nq) = .ok (.string (strOfNums bs)) (wi.drewN nq) := fun nq => Kd.C_string Try.underlying40 Try.underlying5 Try.underlying9 (Kd.C_drewN (Kd.R_reads' hOi.own).2.2 nq)
            clear h1 hRx hCx hb hOi d0 d1 HMg HTg HNg HCg HOg HBg
            rw [HML.out] at HCX ⊢
            dsimp only
            go_upto_region 20 with (fail)
            go_quiet (fail)
            have HBj := Aside0.mk (below_dN HBi.out nq)
            have HCY := Aside0.mk (Kd.C_drewN HCX.out nq)
            obtain ⟨wj, hwj⟩ : ∃ wj, wj = wi.drewN nq := ⟨_, rfl⟩
            rw [← hwj] at HBj HCY ⊢
            clear v0 v1 e0 hwj HCi HCX HBi
            go_wp2_with fail
            go_loopw [14] (fun v14 wr => ∃ k : Nat, v14 = .int .i64 k ∧ k ≤ m ∧ Below wj.heap.size wj wr) (fun v14 _ => m - (intOf v14).toNat)
            case atStart => exact ⟨0, rfl, Nat.zero_le _, Below.refl _ _⟩
            case round =>
              obtain ⟨k, rfl, hk, hb⟩ := hrel
              have HB := Aside0.mk hb
              clear hb
              by_cases hlt : k < m
              · obtain ⟨ad, hA0, hc0'⟩ := Kd.at_int HR0.out (k : Int) (by omega) (by omega)
                obtain ⟨ae, Ab, cb, hA1, hd0', hlc, hCb⟩ := at_blobs HR1.out k (by omega)
                obtain ⟨ag, Ag, cg, hA2, hx0, hx1, hlg, hCg⟩ := at_pairs HCY.out k (by omega)
                have hz := zip_get l0 l1 k (by rw [← HPS.out, HML.out]; exact hlt)
                rw [← HPS.out] at hz
                rw [hz] at hx0 hx1 hlg hCg
                rw [Int.toNat_natCast] at hc0'
                subst hA0 hA1 hA2
                have hbw := HBj.out.trans (HB.out.mono HBj.out.size)
                have c1' := pw_cell_below hbw hc0'
                have c2' := pw_cell_below hbw hd0'
                have c3' := pw_cell_below HB.out hx0
                have c4' := pw_cell_below HB.out hx1
                obtain ⟨x, hx⟩ : ∃ x, x = rd l0 (k : Int) := ⟨_, rfl⟩
                obtain ⟨ys, hys⟩ : ∃ ys, ys = l1.getD k [] := ⟨_, rfl⟩
                have hCb' := Kd.C_below hCb hbw
                have hCg' := Kd.C_below hCg HB.out
                dsimp only at c3' c4' hCg'
                rw [← hx] at c1' c3'
                rw [← hys] at c2' c4' hCb' hCg'
                have v0 : ∀ nq, (convert 40 9 (.slice Ab ys.length cb)).run Try.prog (wr.drewN nq) = .ok (.string (strOfNums ys)) (wr.drewN nq) := fun nq => Kd.C_string Try.underlying40 Try.underlying5 Try.underlying9 (Kd.C_drewN hCb' nq)
                have v1 : ∀ nq, (convert 40 9 (.slice Ag ys.length cg)).run Try.prog (wr.drewN nq) = .ok (.string (strOfNums ys)) (wr.drewN nq) := fun nq => Kd.C_string Try.underlying40 Try.underlying5 Try.underlying9 (Kd.C_drewN hCg' nq)
                clear hc0' hd0' hx0 hx1 hz hx hys hCb hCg hCb' hCg' hbw hlc hlg
                have hk0 : k < l0.length := by omega
                have hk1 : k < l1.length := by omega
                go_upto_region 25 with (fail)
                go_quiet (fail)
                have HB' := Aside0.mk (below_dN HB.out nq)
                go_wp2_with fail
                go_roundw
                case rel => exact ⟨k + 1, by go_num, by omega, HB'.out⟩
                case measure => simp [intOf]; omega
              · go_wp2_with fail
                go_ret
                exact ⟨rfl, HBj.out.trans (HB.out.mono HBj.out.size)⟩
          · rw [show encR (bs, 1) = ([], 1) from rfl] at h1
            rw [HML.out] at h1
            refine h1.mono ?_
            rintro r wf ⟨A4, c4, rfl, hC4, hl4, hb⟩
            have HC4 := Aside0.mk hC4
            have HL4 := Aside0.mk hl4
            have HOf := Aside0.mk (HOe.out.below hb)
            have HMf := Aside0.mk (HMe.out.below hb)
            have HTf := Aside0.mk (HTe.out.below hb)
            have HNf := Aside0.mk (blk_below HNe.out hb)
            have HBf := Aside0.mk (below_step HBe.out hb)
            clear h1 hC4 hl4 hb HOe HMe HTe HNe HBe HCe
            dsimp only [List.length_nil]
            go_wp2_with fail
            refine (pianolalaw01_lives.calls true _ rfl).mono ?_
            rintro r wg ⟨rfl, hb⟩
            have HCg := Aside0.mk (Kd.C_below HC4.out hb)
            have HOg := Aside0.mk (HOf.out.below hb)
            have HMg := Aside0.mk (HMf.out.below hb)
            have HTg := Aside0.mk (HTf.out.below hb)
            have hng := blk_below HNf.out hb
            have HBg := Aside0.mk (below_step HBf.out hb)
            have d0 : wg.cell? ⟨q, 0, none⟩ = some (.func (.func 81) #[] #[.pointer (some ⟨bc, 0, none⟩), .pointer (some ⟨bf, 0, none⟩)]) := blk_cell hng 0
            have d1 : wg.cell? ⟨q, 1, none⟩ = some (.func (.func 82) #[] #[.pointer (some ⟨bc, 0, none⟩), .pointer (some ⟨bf, 0, none⟩)]) := blk_cell hng 1
            have HNg := Aside0.mk hng
            clear hb hng HC4 HOf HMf HTf HNf HBf
            go_wp2_with fail
            with_reducible refine (why_run _ _ _ _ _ _ HOg.out).mono ?_
            rintro r wh ⟨rfl, rfl⟩
            go_wp2_with fail
            go_ret
            exact ⟨rfl, HBg.out⟩
          · rw [show encR (bs, 3) = ([], 3) from rfl] at h1
            rw [HML.out] at h1
            refine h1.mono ?_
            rintro r wf ⟨A4, c4, rfl, hC4, hl4, hb⟩
            have HC4 := Aside0.mk hC4
            have HL4 := Aside0.mk hl4
            have HOf := Aside0.mk (HOe.out.below hb)
            have HMf := Aside0.mk (HMe.out.below hb)
            have HTf := Aside0.mk (HTe.out.below hb)
            have HNf := Aside0.mk (blk_below HNe.out hb)
            have HBf := Aside0.mk (below_step HBe.out hb)
            clear h1 hC4 hl4 hb HOe HMe HTe HNe HBe HCe
            dsimp only [List.length_nil]
            go_wp2_with fail
            refine (pianolalaw01_lives.calls true _ rfl).mono ?_
            rintro r wg ⟨rfl, hb⟩
            have HCg := Aside0.mk (Kd.C_below HC4.out hb)
            have HOg := Aside0.mk (HOf.out.below hb)
            have HMg := Aside0.mk (HMf.out.below hb)
            have HTg := Aside0.mk (HTf.out.below hb)
            have hng := blk_below HNf.out hb
            have HBg := Aside0.mk (below_step HBf.out hb)
            have d0 : wg.cell? ⟨q, 0, none⟩ = some (.func (.func 81) #[] #[.pointer (some ⟨bc, 0, none⟩), .pointer (some ⟨bf, 0, none⟩)]) := blk_cell hng 0
            have d1 : wg.cell? ⟨q, 1, none⟩ = some (.func (.func 82) #[] #[.pointer (some ⟨bc, 0, none⟩), .pointer (some ⟨bf, 0, none⟩)]) := blk_cell hng 1
            have HNg := Aside0.mk hng
            clear hb hng HC4 HOf HMf HTf HNf HBf
            go_wp2_with fail
            with_reducible refine (why_run _ _ _ _ _ _ HOg.out).mono ?_
            rintro r wh ⟨rfl, rfl⟩
            go_wp2_with fail
            go_ret
            exact ⟨rfl, HBg.out⟩
  · obtain ⟨m, hm⟩ : ∃ m, m = l0.length := ⟨_, rfl⟩
    have hml : ps.length = m := by rw [HPL.out, hm]; omega
    have hle0 : m ≤ l0.length := by omega
    have hle1 : m ≤ l1.length := by omega
    have hmin' : l0.length ≤ l1.length := by omega
    clear hmin
    go_wp2_with fail
    rw [← hm]
    clear hm hmin'
    have HML := Aside0.mk hml
    clear hml
    go_wp2_with fail
    refine (rmany_run w.heap.size w.heap.size (.slice none 0 0) [] 0 (m : Int) (w.alloc (.cells #[.slice none 0 0, .bool false, .bool false] 52)) ⟨Nat.le_refl _, blk_new w _, Kd.R_nil _ _ _ _ _, .inl rfl⟩ (by simp only [World.size_alloc]; omega) (by simp)).mono ?_
    rintro r w1 ⟨rfl, ⟨v1, hO1⟩, hb1, hk1⟩
    have HO1 := Aside0.mk hO1
    have HB1 := Aside0.mk (show Below w.heap.size w w1 from (below_alloc (Below.refl _ _) _).trans hb1)
    clear hO1 hb1 hk1
    go_wp2_with fail
    go_loopw [6, 8] (fun v6 v8 wr => ∃ k : Nat, v8 = .int .i64 k ∧ k ≤ m ∧ Kd.N kP 100 wr w.heap.size (fun b => b ≠ w.heap.size) v6 (ps.take k) ∧ (∃ v, ROK wr w.heap.size w.heap.size v ((ps.take k).foldl (bothS 2 65535) (numS ([], 0) 2 4096 (m : Int))).1 ((ps.take k).foldl (bothS 2 65535) (numS ([], 0) 2 4096 (m : Int))).2) ∧ Below w.heap.size w wr) (fun _ v8 _ => m - (intOf v8).toNat)
    case atStart => exact ⟨0, rfl, Nat.zero_le _, Kd.N_nil _ _ _ _ _, ⟨v1, HO1.out⟩, HB1.out⟩
    case round =>
      obtain ⟨k, rfl, hk, hN, ⟨vo, hO⟩, hb⟩ := hrel
      obtain ⟨A6, c6, hv6⟩ := Kd.N_slice hN
      subst hv6
      have hlt6 : (ps.take k).length = k := by rw [List.length_take, HML.out]; omega
      rw [hlt6]
      rw [hlt6] at hN
      have HT6 := Aside0.mk hlt6
      have HN := Aside0.mk hN
      have HO := Aside0.mk hO
      have HB := Aside0.mk hb
      have hz := hb.size
      have hlp : w.heap.size < wr.heap.size := blk_lt hO.blk
      clear hN hO hb hlt6
      by_cases hlt : k < m
      · as_aux_lemma =>
          obtain ⟨ad, hA0, hc0'⟩ := Kd.at_int HR0.out (k : Int) (by omega) (by omega)
          obtain ⟨ae, Ab, cb, hA1, hd0', hlc, hCb⟩ := at_blobs HR1.out k (by omega)
          rw [Int.toNat_natCast] at hc0'
          subst hA0 hA1
          have hst := zip_step l0 l1 k (by rw [← HPS.out, HML.out]; exact hlt)
          rw [← HPS.out] at hst
          have hob := okLists_blob HOK.out k
          obtain ⟨x, hx⟩ : ∃ x, x = rd l0 (k : Int) := ⟨_, rfl⟩
          obtain ⟨ys, hys⟩ : ∃ ys, ys = l1.getD k [] := ⟨_, rfl⟩
          rw [← hx, ← hys] at hst
          rw [← hx] at hc0'
          rw [← hys] at hd0' hlc hCb hob
          have HC0 := Aside0.mk hc0'
          have HD0 := Aside0.mk hd0'
          have hc := pw_cell_below HB.out hc0'
          have hd := pw_cell_below HB.out hd0'
          have HST := Aside0.mk hst
          have HCB := Aside0.mk hCb
          have HOB := Aside0.mk hob
          have HLC := Aside0.mk hlc
          clear hst hCb hob hlc hx hys hc0' hd0'
          have hk0 : k < l0.length := by omega
          have hk1 : k < l1.length := by omega
          go_upto_region 10 with (fail)
          go_region_held3 (fun w' => w'.cell? (ad.add k) = some (.int .i64 x) ∧ w'.cell? (ae.add k) = some (.slice Ab ys.length cb)) (go_keep) (first
            | (refine Kd.N_append_rows_step kP (w0 := w) w.heap.size rfl (.tmp 33) (.tmp 43) 98 100 (.agg #[.int .i64 0, .slice none 0 0]) 32 rfl Try.underlying98 (by kernel_rfl) rfl (by decide) (by decide) (.slice A6 k c6) (ps.take k) [(x, ys)] (some ⟨wr.heap.size, 0, none⟩) 1 1 (fun b => b ≠ w.heap.size) (fun b => b < w.heap.size ∨ b = wr.heap.size) ?h1 ?h2 ?aO ?aR ?ak ?af ?aB ?aS ?aL ?_; (case h1 => first | rfl | simp [Act.eval, Act.put]); (case h2 => first | rfl | simp [Act.eval, Act.put]); (case aO => (with_reducible repeat (first | apply Kd.N_drewN | apply Kd.N_drew | apply Kd.N_alloc)); exact HN.out); (case aR => (with_reducible repeat (first | apply Kd.F_drewN | apply Kd.F_drew)); exact pair_F w wr x Ab cb ys HB.out HCB.out HLC.out); (case ak => exact pair_ok HN.out hlp); (case af => intro b hb2; have hq : wr.heap.size ≤ b := Nat.le_trans (below_size (by repeat (first | exact Below.refl _ _ | apply below_alloc | apply pw_below_drewN | apply below_drew1))) hb2; omega); (case aB => repeat (first | (with_reducible first | exact HB.out | apply below_alloc | apply pw_below_drewN | apply below_drew1) | exact HB.out)); (case aL => rw [HT6.out]; omega); (case aS => exact below_size (by repeat (first | (with_reducible first | exact HB.out | apply below_alloc | apply pw_below_drewN | apply below_drew1) | exact HB.out))); intro v1 w1 ho hb1 hg hat; have HX := Aside0.mk (And.intro ho (And.intro hb1 (ROK.grown (ROK.below HO.out (by repeat (first | exact Below.refl _ _ | apply below_alloc | apply pw_below_drewN | apply below_drew1))) (by (with_reducible repeat (first | apply Kd.N_drewN | apply Kd.N_drew | apply Kd.N_alloc)); exact HN.out) hg))); have g0 := pw_cell_below hb1 HC0.out; have g1 := pw_cell_below hb1 HD0.out; clear ho hb1 hg hat))
          have hlen := foldP_len (ps.take k) (numS ([], 0) 2 4096 (m : Int)) (numS_len _ 2 4096 _ (by simp))
          have HLN := Aside0.mk hlen
          clear hlen
          go_wp2_with fail
          refine (rshort_run w.heap.size w.heap.size vo _ _ x w1 HX.out.2.2 HX.out.2.1.size HLN.out).mono ?_
          rintro r w2 ⟨rfl, ⟨v2, hO2⟩, hb2, hk2⟩
          have HO2 := Aside0.mk hO2
          have HB2 := Aside0.mk (HX.out.2.1.trans hb2)
          have HN2 := Aside0.mk (Kd.N_keep HX.out.1 hk2 (fun _ h => h))
          have g2 := pw_cell_below HB2.out HD0.out
          clear hO2 hb2 hk2 g0 g1
          go_wp2_with fail
          refine (rblob_run w w.heap.size v2 _ _ Ab cb ys w2 HO2.out HCB.out HB2.out (numS_len _ 2 65535 x HLN.out)).mono ?_
          rintro r w3 ⟨rfl, ⟨v3, hO3⟩, hb3, hk3⟩
          have HO3 := Aside0.mk hO3
          have HB3 := Aside0.mk (HB2.out.trans hb3)
          have HN3 := Aside0.mk (Kd.N_keep HN2.out hk3 (fun _ h => h))
          clear hO3 hb3 hk3 g2
          go_wp2_with fail
          go_roundw
          case rel =>
            refine ⟨k + 1, by go_num, by omega, ?_, ⟨v3, ?_⟩, HB3.out⟩
            · rw [HST.out]; exact HN3.out
            · rw [HST.out, List.foldl_append]; exact HO3.out
          case measure => simp [intOf]; omega
      · as_aux_lemma =>
          have hkm : m = k := by omega
          subst hkm
          have hall : ps.take m = ps := List.take_of_length_le (by have := HML.out; omega)
          have hS : manyS (bothS 2 65535) ([], 0) ps = ps.foldl (bothS 2 65535) (numS ([], 0) 2 4096 (m : Int)) := by
            unfold manyS
            rw [manyGo_fold _ (bothS_stop 2 65535), HML.out]
          obtain ⟨bs, e, hbe⟩ : ∃ bs e, manyS (bothS 2 65535) ([], 0) ps = (bs, e) := ⟨_, _, rfl⟩
          have HS := Aside0.mk hbe
          have HO0 := Aside0.mk (show ROK wr w.heap.size w.heap.size vo bs e by have h := HO.out; rw [hall, ← hS, hbe] at h; exact h)
          have HC0 := Aside0.mk (show Kd.C kP wr A6 ps.length ps by have h := HN.out; rw [hall] at h; exact (Kd.N_reads' h).2.2)
          clear HN HO hall hS hbe HT6
          go_wp2_with fail
          refine (short_run wr).mono ?_
          rintro r wa ⟨s1, s2, rfl, hf, hb⟩
          have HFa := Aside0.mk hf
          have HBa := Aside0.mk (below_step HB.out hb)
          have HCa := Aside0.mk (Kd.C_below HC0.out hb)
          have HOa := Aside0.mk (ROK.below HO0.out hb)
          clear hf hb
          simp only [numV]
          go_wp2_with fail
          refine (blob_make wa).mono ?_
          rintro r wb ⟨bk, e1, e2, rfl, hf, hb⟩
          have HGb := Aside0.mk hf
          have HFb := Aside0.mk (HFa.out.below hb)
          have HBb := Aside0.mk (below_step HBa.out hb)
          have HCb := Aside0.mk (Kd.C_below HCa.out hb)
          have HOb := Aside0.mk (ROK.below HOa.out hb)
          clear hf hb HFa HBa
          simp only [blobV]
          go_wp2_with fail
          refine (both_make _ _ _ _ wb).mono ?_
          rintro r wc ⟨rfl, hq1, hq2, hb⟩
          have HTc := Aside0.mk (show BothF wc wb.heap.size (wb.heap.size + 1) s1 s2 2 65535 bk e1 e2 from ⟨hq1, HFb.out.below hb, hq2, HGb.out.below hb⟩)
          have HBc := Aside0.mk (below_step HBb.out hb)
          have HCc := Aside0.mk (Kd.C_below HCb.out hb)
          have HOc := Aside0.mk (ROK.below HOb.out hb)
          clear hq1 hq2 hb HFb HGb HBb
          simp only [bothV]
          go_wp2_with fail
          refine (many_P _ _ _ _ rfl rfl wc).mono ?_
          rintro r wd ⟨bc, bf, k1, k2, rfl, hM, hb⟩
          obtain ⟨ba, hba⟩ : ∃ ba, ba = wb.heap.size := ⟨_, rfl⟩
          obtain ⟨bb, hbb⟩ : ∃ bb, bb = wb.heap.size + 1 := ⟨_, rfl⟩
          have hbl : Below wd.heap.size wd (wd.alloc (.cells (manyPV bc bf) 104)) := below_alloc (Below.refl _ _) _
          have hM0 : ManyF wd bc bf k1 k2 109 (bothV ba bb) := by rw [hba, hbb]; exact hM
          have hT0 : BothF wc ba bb s1 s2 2 65535 bk e1 e2 := by rw [hba, hbb]; exact HTc.out
          obtain ⟨q, hq⟩ : ∃ q, q = wd.heap.size := ⟨_, rfl⟩
          obtain ⟨we, hwe⟩ : ∃ we, we = wd.alloc (.cells (manyPV bc bf) 104) := ⟨_, rfl⟩
          have hnew := blk_new wd (.cells (manyPV bc bf) 104)
          rw [← hwe] at hbl hnew
          rw [← hq] at hnew
          have HMe := Aside0.mk (hM0.below hbl)
          have HTe := Aside0.mk ((hT0.below hb).below hbl)
          have HBe := Aside0.mk (below_step (below_step HBc.out hb) hbl)
          have HNe := Aside0.mk hnew
          have HWe := Aside0.mk (And.intro hq hwe)
          have HCd := Aside0.mk (Kd.C_below HCc.out hb)
          have HCe := Aside0.mk (Kd.C_below HCd.out hbl)
          have HOd := Aside0.mk (ROK.below HOc.out hb)
          have HOe := Aside0.mk (ROK.below HOd.out hbl)
          clear hM hM0 hT0 hb hbl hnew hq hwe HTc HBc hba hbb
          simp only [manyPV]
          go_wp2_with fail
          rw [show wd.alloc (.cells #[.func (.func 81) #[] #[.pointer (some ⟨bc, 0, none⟩), .pointer (some ⟨bf, 0, none⟩)], .func (.func 82) #[] #[.pointer (some ⟨bc, 0, none⟩), .pointer (some ⟨bf, 0, none⟩)]] 104) = we from HWe.out.2.symm]
          try rw [← HWe.out.1]
          have h1 := enc_P we bc bf k1 k2 ba bb s1 s2 2 65535 bk e1 e2 A6 c6 ps HMe.out HTe.out HCe.out
          rw [HS.out] at h1
          rcases HO0.out.es with rfl | rfl | rfl
          · have HBO := Aside0.mk (lists_ok ps bs HS.out (by rw [HPS.out]; exact zip_ok HOK.out))
            have HRT := Aside0.mk (lists_round ps bs HS.out)
            rw [show encR (bs, 0) = (bs, 0) from rfl] at h1
            rw [HML.out] at h1
            refine h1.mono ?_
            rintro r wf ⟨A4, c4, rfl, hC4, hl4, hb⟩
            have HC4 := Aside0.mk hC4
            have HL4 := Aside0.mk hl4
            have HOf := Aside0.mk (HOe.out.below hb)
            have HMf := Aside0.mk (HMe.out.below hb)
            have HTf := Aside0.mk (HTe.out.below hb)
            have HNf := Aside0.mk (blk_below HNe.out hb)
            have HBf := Aside0.mk (below_step HBe.out hb)
            clear h1 hC4 hl4 hb HOe HMe HTe HNe HBe HCe
            dsimp only [List.length_nil]
            go_wp2_with fail
            refine (pianolalaw01_lives.calls true _ rfl).mono ?_
            rintro r wg ⟨rfl, hb⟩
            have HCg := Aside0.mk (Kd.C_below HC4.out hb)
            have HOg := Aside0.mk (HOf.out.below hb)
            have HMg := Aside0.mk (HMf.out.below hb)
            have HTg := Aside0.mk (HTf.out.below hb)
            have hng := blk_below HNf.out hb
            have HBg := Aside0.mk (below_step HBf.out hb)
            have d0 : wg.cell? ⟨q, 0, none⟩ = some (.func (.func 81) #[] #[.pointer (some ⟨bc, 0, none⟩), .pointer (some ⟨bf, 0, none⟩)]) := blk_cell hng 0
            have d1 : wg.cell? ⟨q, 1, none⟩ = some (.func (.func 82) #[] #[.pointer (some ⟨bc, 0, none⟩), .pointer (some ⟨bf, 0, none⟩)]) := blk_cell hng 1
            have HNg := Aside0.mk hng
            clear hb hng HC4 HOf HMf HTf HNf HBf
            go_wp2_with fail
            with_reducible refine (why_run _ _ _ _ _ _ HOg.out).mono ?_
            rintro r wh ⟨rfl, rfl⟩
            go_wp2_with fail
            have h1 := dec_P wh bc bf k1 k2 ba bb s1 s2 2 65535 bk e1 e2 HMg.out HTg.out A4 c4 bs HCg.out HL4.out HBO.out
            rw [HRT.out] at h1
            refine h1.mono ?_
            rintro r wi ⟨vx, rfl, hRx, hb⟩
            obtain ⟨Ax, cx, hvx, _, hCx⟩ := Kd.R_reads hRx
            subst hvx
            have HCX := Aside0.mk hCx
            have HCi := Aside0.mk (Kd.C_below HCg.out hb)
            have hOi := HOg.out.below hb
            have HBi := Aside0.mk (below_step HBg.out hb)
            obtain ⟨A3, c3, hv3⟩ := Kd.R_slice hOi.own
            subst hv3
            have e0 : wi.cell? ⟨w.heap.size, 0, none⟩ = some (.slice A3 bs.length c3) := blk_cell hOi.blk 0
            have v0 : ∀ nq, (convert 40 9 (.slice A4 bs.length c4)).run Try.prog (wi.drewN nq) = .ok (.string (strOfNums bs)) (wi.drewN nq) := fun nq => Kd.C_string Try.underlying40 Try.underlying5 Try.underlying9 (Kd.C_drewN HCi.out nq)
            have v1 : ∀ nq, (convert 40 9 (.slice A3 bs.length c3)).run Try.prog (wi.drewN nq) = .ok (.string (strOfNums bs)) (wi.drewN nq) := fun nq => Kd.C_string Try.underlying40 Try.underlying5 Try.underlying9 (Kd.C_drewN (Kd.R_reads' hOi.own).2.2 nq)
            clear h1 hRx hCx hb hOi d0 d1 HMg HTg HNg HCg HOg HBg
            rw [HML.out] at HCX ⊢
            dsimp only
            go_upto_region 20 with (fail)
            go_quiet (fail)
            have HBj := Aside0.mk (below_dN HBi.out nq)
            have HCY := Aside0.mk (Kd.C_drewN HCX.out nq)
            obtain ⟨wj, hwj⟩ : ∃ wj, wj = wi.drewN nq := ⟨_, rfl⟩
            rw [← hwj] at HBj HCY ⊢
            clear v0 v1 e0 hwj HCi HCX HBi
            go_wp2_with fail
            go_loopw [14] (fun v14 wr => ∃ k : Nat, v14 = .int .i64 k ∧ k ≤ m ∧ Below wj.heap.size wj wr) (fun v14 _ => m - (intOf v14).toNat)
            case atStart => exact ⟨0, rfl, Nat.zero_le _, Below.refl _ _⟩
            case round =>
              obtain ⟨k, rfl, hk, hb⟩ := hrel
              have HB := Aside0.mk hb
              clear hb
              by_cases hlt : k < m
              · obtain ⟨ad, hA0, hc0'⟩ := Kd.at_int HR0.out (k : Int) (by omega) (by omega)
                obtain ⟨ae, Ab, cb, hA1, hd0', hlc, hCb⟩ := at_blobs HR1.out k (by omega)
                obtain ⟨ag, Ag, cg, hA2, hx0, hx1, hlg, hCg⟩ := at_pairs HCY.out k (by omega)
                have hz := zip_get l0 l1 k (by rw [← HPS.out, HML.out]; exact hlt)
                rw [← HPS.out] at hz
                rw [hz] at hx0 hx1 hlg hCg
                rw [Int.toNat_natCast] at hc0'
                subst hA0 hA1 hA2
                have hbw := HBj.out.trans (HB.out.mono HBj.out.size)
                have c1' := pw_cell_below hbw hc0'
                have c2' := pw_cell_below hbw hd0'
                have c3' := pw_cell_below HB.out hx0
                have c4' := pw_cell_below HB.out hx1
                obtain ⟨x, hx⟩ : ∃ x, x = rd l0 (k : Int) := ⟨_, rfl⟩
                obtain ⟨ys, hys⟩ : ∃ ys, ys = l1.getD k [] := ⟨_, rfl⟩
                have hCb' := Kd.C_below hCb hbw
                have hCg' := Kd.C_below hCg HB.out
                dsimp only at c3' c4' hCg'
                rw [← hx] at c1' c3'
                rw [← hys] at c2' c4' hCb' hCg'
                have v0 : ∀ nq, (convert 40 9 (.slice Ab ys.length cb)).run Try.prog (wr.drewN nq) = .ok (.string (strOfNums ys)) (wr.drewN nq) := fun nq => Kd.C_string Try.underlying40 Try.underlying5 Try.underlying9 (Kd.C_drewN hCb' nq)
                have v1 : ∀ nq, (convert 40 9 (.slice Ag ys.length cg)).run Try.prog (wr.drewN nq) = .ok (.string (strOfNums ys)) (wr.drewN nq) := fun nq => Kd.C_string Try.underlying40 Try.underlying5 Try.underlying9 (Kd.C_drewN hCg' nq)
                clear hc0' hd0' hx0 hx1 hz hx hys hCb hCg hCb' hCg' hbw hlc hlg
                have hk0 : k < l0.length := by omega
                have hk1 : k < l1.length := by omega
                go_upto_region 25 with (fail)
                go_quiet (fail)
                have HB' := Aside0.mk (below_dN HB.out nq)
                go_wp2_with fail
                go_roundw
                case rel => exact ⟨k + 1, by go_num, by omega, HB'.out⟩
                case measure => simp [intOf]; omega
              · go_wp2_with fail
                go_ret
                exact ⟨rfl, HBj.out.trans (HB.out.mono HBj.out.size)⟩
          · rw [show encR (bs, 1) = ([], 1) from rfl] at h1
            rw [HML.out] at h1
            refine h1.mono ?_
            rintro r wf ⟨A4, c4, rfl, hC4, hl4, hb⟩
            have HC4 := Aside0.mk hC4
            have HL4 := Aside0.mk hl4
            have HOf := Aside0.mk (HOe.out.below hb)
            have HMf := Aside0.mk (HMe.out.below hb)
            have HTf := Aside0.mk (HTe.out.below hb)
            have HNf := Aside0.mk (blk_below HNe.out hb)
            have HBf := Aside0.mk (below_step HBe.out hb)
            clear h1 hC4 hl4 hb HOe HMe HTe HNe HBe HCe
            dsimp only [List.length_nil]
            go_wp2_with fail
            refine (pianolalaw01_lives.calls true _ rfl).mono ?_
            rintro r wg ⟨rfl, hb⟩
            have HCg := Aside0.mk (Kd.C_below HC4.out hb)
            have HOg := Aside0.mk (HOf.out.below hb)
            have HMg := Aside0.mk (HMf.out.below hb)
            have HTg := Aside0.mk (HTf.out.below hb)
            have hng := blk_below HNf.out hb
            have HBg := Aside0.mk (below_step HBf.out hb)
            have d0 : wg.cell? ⟨q, 0, none⟩ = some (.func (.func 81) #[] #[.pointer (some ⟨bc, 0, none⟩), .pointer (some ⟨bf, 0, none⟩)]) := blk_cell hng 0
            have d1 : wg.cell? ⟨q, 1, none⟩ = some (.func (.func 82) #[] #[.pointer (some ⟨bc, 0, none⟩), .pointer (some ⟨bf, 0, none⟩)]) := blk_cell hng 1
            have HNg := Aside0.mk hng
            clear hb hng HC4 HOf HMf HTf HNf HBf
            go_wp2_with fail
            with_reducible refine (why_run _ _ _ _ _ _ HOg.out).mono ?_
            rintro r wh ⟨rfl, rfl⟩
            go_wp2_with fail
            go_ret
            exact ⟨rfl, HBg.out⟩
          · rw [show encR (bs, 3) = ([], 3) from rfl] at h1
            rw [HML.out] at h1
            refine h1.mono ?_
            rintro r wf ⟨A4, c4, rfl, hC4, hl4, hb⟩
            have HC4 := Aside0.mk hC4
            have HL4 := Aside0.mk hl4
            have HOf := Aside0.mk (HOe.out.below hb)
            have HMf := Aside0.mk (HMe.out.below hb)
            have HTf := Aside0.mk (HTe.out.below hb)
            have HNf := Aside0.mk (blk_below HNe.out hb)
            have HBf := Aside0.mk (below_step HBe.out hb)
            clear h1 hC4 hl4 hb HOe HMe HTe HNe HBe HCe
            dsimp only [List.length_nil]
            go_wp2_with fail
            refine (pianolalaw01_lives.calls true _ rfl).mono ?_
            rintro r wg ⟨rfl, hb⟩
            have HCg := Aside0.mk (Kd.C_below HC4.out hb)
            have HOg := Aside0.mk (HOf.out.below hb)
            have HMg := Aside0.mk (HMf.out.below hb)
            have HTg := Aside0.mk (HTf.out.below hb)
            have hng := blk_below HNf.out hb
            have HBg := Aside0.mk (below_step HBf.out hb)
            have d0 : wg.cell? ⟨q, 0, none⟩ = some (.func (.func 81) #[] #[.pointer (some ⟨bc, 0, none⟩), .pointer (some ⟨bf, 0, none⟩)]) := blk_cell hng 0
            have d1 : wg.cell? ⟨q, 1, none⟩ = some (.func (.func 82) #[] #[.pointer (some ⟨bc, 0, none⟩), .pointer (some ⟨bf, 0, none⟩)]) := blk_cell hng 1
            have HNg := Aside0.mk hng
            clear hb hng HC4 HOf HMf HTf HNf HBf
            go_wp2_with fail
            with_reducible refine (why_run _ _ _ _ _ _ HOg.out).mono ?_
            rintro r wh ⟨rfl, rfl⟩
            go_wp2_with fail
            go_ret
            exact ⟨rfl, HBg.out⟩

end Go.Proofs.Ytdlkkjfbbeffbaa.P
