/- Ytdlkkjfbbeffbaa: what Go functions come to, and that they do: walks, printed by a program of this session or typed by hand; no statement of the seat stands here. -/
import Derived.Test.YtdlkkjfbbeffbaaP0
import Derived.Test.YtdlkkjfbbeffbaaPF16
import Derived.Test.YtdlkkjfbbeffbaaCodecPl3
import Derived.Test.YtdlkkjfbbeffbaaCodecT
import Derived.Test.YtdlkkjfbbeffbaaPF16
namespace Go.Proofs.Ytdlkkjfbbeffbaa.P
open Go.RowKit Go.Proofs.YtdlkkjfbbeffbaaW.PrintWords Go.Proofs.YtdlkkjfbbeffbaaW.PrintLast Go.Proofs.YtdlkkjfbbeffbaaW.PrintMore
attribute [local go_sem] max2_int min2_int max_two min_two max_three min_three max_four min_four   -- for this text's walks alone
set_option linter.unusedVariables false
set_option linter.unusedSimpArgs false


/-! ### pianolalaw01_CodecTakes: function 11 -/
-- IMPORT Derived.Test.YtdlkkjfbbeffbaaCodecT
-- IMPORT Derived.Test.YtdlkkjfbbeffbaaCodecPl3
-- IMPORT Derived.Test.YtdlkkjfbbeffbaaPF16
def pianolalaw01_CodecTakes.f (l0 : List Int) : Option Bool := if okBytes l0 = true then some true else none
theorem RIn.grown {w0 W w1 : World} {p : Nat} {A : Option Addr} {c : Nat} {bs : List Int} {bad : Bool} {α : Type} {d : Kd α} {e base : Nat} {ok : Nat → Prop} {u : Value} {xs : List α} (h : RIn w0 W p A c bs bad) (hu : Kd.N d e W base ok u xs) (he : e ≠ 61) (hg : W.grownBy w1 u.ownBlock) (hb : Below w0.heap.size w0 w1) : RIn w0 w1 p A c bs bad :=
  ⟨h.le, (hg.block p (blk_lt h.blk) (Kd.N_ne hu h.blk he)).trans h.blk, h.rd, h.cap, h.ok, hb⟩
theorem FK_i64 (W : World) (x : Int) : Kd.FK (Kd.int .i64) W (fun _ => False) x [.int .i64 x] := fun _ _ => rfl
theorem FK_blob {W : World} {base : Nat} {v : Value} {ys : List Int} (h : Kd.R (Kd.int .u8) 5 W base (fun _ => True) v ys) : Kd.FK (Kd.slice 5 (Kd.int .u8)) W (fun k => base ≤ k) ys [v] :=
  Kd.FK_of_M (d := (Kd.slice 5 (Kd.int .u8))) (base := base) (ok := fun k => base ≤ k) ⟨v, rfl, Kd.R_mono (Kd.R_bound h) (fun _ hk => hk.2.1)⟩
theorem manyIn_len {α : Type} (G : List Int × Bool → α × List Int × Bool) : ∀ (n : Nat) (acc : List α) (s : List Int × Bool), (manyIn G n acc s).2.2 = false → (manyIn G n acc s).1.length = acc.length + n
  | 0, acc, s, _ => rfl
  | n + 1, acc, s, h => by
    rw [manyIn] at h ⊢
    by_cases hs : s.2 = true
    · rw [if_pos hs] at h
      rw [hs] at h
      cases h
    · rw [if_neg hs] at h ⊢
      rw [manyIn_len G n _ _ h, List.length_append]
      simp only [List.length_singleton]
      omega
theorem bothG_back (s : List Int × Bool) : (bothG 2 65535 s).2.1.length ≤ s.1.length := by
  unfold bothG
  dsimp only
  have h1 := takeS_back s 2
  have h2 := takeS_back (lowI s 2 65535).2 4
  have h3 := takeS_back (lowI (lowI s 2 65535).2 4 65536).2 (lowI (lowI s 2 65535).2 4 65536).1
  exact Nat.le_trans h3.1 (Nat.le_trans h2.1 h1.1)
theorem manyIn_back : ∀ (n : Nat) (acc : List PairS) (s : List Int × Bool), (manyIn (bothG 2 65535) n acc s).2.1.length ≤ s.1.length
  | 0, acc, s => Nat.le_refl _
  | n + 1, acc, s => by
    rw [manyIn]
    split
    · exact Nat.le_refl _
    · exact Nat.le_trans (manyIn_back n _ _) (bothG_back s)
theorem manyR_back (b : List Int) : (manyR (bothG 2 65535) (b, false)).2.1.length ≤ b.length := by
  unfold manyR
  exact Nat.le_trans (manyIn_back _ _ _) (takeS_back (b, false) 2).1
theorem rd_fst (acc : List PairS) (j : Nat) (h : j < acc.length) : rd (acc.map Prod.fst) (j : Int) = (acc.getD j (0, [])).1 := by
  unfold rd
  rw [Int.toNat_natCast, List.getD_eq_getElem?_getD, List.getD_eq_getElem?_getD, List.getElem?_map, List.getElem?_eq_getElem h]
  rfl
theorem get_snd (acc : List PairS) (j : Nat) (h : j < acc.length) : (acc.map Prod.snd).getD j [] = (acc.getD j (0, [])).2 := by
  rw [List.getD_eq_getElem?_getD, List.getD_eq_getElem?_getD, List.getElem?_map, List.getElem?_eq_getElem h]
  rfl
set_option maxRecDepth 100000 in
set_option maxHeartbeats 16000000 in
theorem pianolalaw01_CodecTakes.calls (A0 : Option Addr) (c0 : Nat) (l0 : List Int) (r : Bool) (w : World) (hr0 : Kd.C (Kd.int .u8) w A0 l0.length l0) (hc0 : l0.length ≤ c0) (h : pianolalaw01_CodecTakes.f l0 = some r) :
    Calls Try.prog 11 #[.slice A0 l0.length c0] w fun e w' => e = .returned (.bool r) ∧ Below w.heap.size w w' := by
  have hok : okBytes l0 = true := by
    unfold pianolalaw01_CodecTakes.f at h
    split at h
    · assumption
    · cases h
  obtain rfl : r = true := by
    unfold pianolalaw01_CodecTakes.f at h
    rw [if_pos hok] at h
    exact (Option.some.inj h).symm
  have HOK := Aside0.mk (okBytes_is hok)
  have HR := Aside0.mk hr0
  have hmx := Kd.C_max hr0
  clear h hok hr0
  go_enter Try.func11, Try.ntmps11
  by_cases hbig : 1048576 < l0.length
  · go_wp2_with fail
    refine (pianolalaw01_lives.calls true _ rfl).mono ?_
    rintro r w1 ⟨rfl, hb⟩
    have HB := Aside0.mk hb
    clear hb
    go_wp2_with fail
    go_ret
    exact ⟨rfl, HB.out⟩
  have hsm : l0.length ≤ 1048576 := by omega
  clear hbig
  go_wp2_with fail
  have hr := rinmany_run w (w.alloc (.cells #[.slice A0 l0.length c0, .bool false] 61)) w.heap.size A0 c0 l0 false ⟨Nat.le_refl _, blk_new w _, HR.out, hc0, HOK.out, below_alloc (Below.refl _ _) _⟩
  have HC := Aside0.mk (lowI_range (l0, false) 2 4096 (by decide) (by decide) HOK.out.1)
  obtain ⟨n0, hn0⟩ : ∃ n0 : Nat, (lowI (l0, false) 2 4096).1 = (n0 : Int) := ⟨_, (Int.toNat_of_nonneg HC.out.1).symm⟩
  have hn1 : n0 ≤ 4096 := by have := HC.out.2; omega
  obtain ⟨b1, d1, hs1⟩ : ∃ b1 d1, (lowI (l0, false) 2 4096).2 = (b1, d1) := ⟨_, _, rfl⟩
  obtain ⟨ps, rest, bad, hT⟩ : ∃ ps rest bad, manyR (bothG 2 65535) (l0, false) = (ps, rest, bad) := ⟨_, _, _, rfl⟩
  have HT := Aside0.mk hT
  have HRM := Aside0.mk (show manyIn (bothG 2 65535) n0 [] (b1, d1) = (ps, rest, bad) by rw [← hT]; unfold manyR; rw [hn0, Int.toNat_natCast, hs1])
  have HBK := Aside0.mk (show rest.length ≤ l0.length by have h := manyR_back l0; rw [hT] at h; exact h)
  rw [hn0, hs1] at hr
  clear hn0 hs1 hT HC
  refine hr.mono ?_
  rintro r w1 ⟨rfl, ⟨Ai, ci, hI1⟩, _⟩
  have HI1 := Aside0.mk hI1
  clear hr hI1
  go_wp2_with fail
  go_loopw [4, 5, 7] (fun v4 v5 v7 wr => ∃ (k m : Nat) (acc : List PairS) (b' : List Int) (d' : Bool), v7 = .int .i64 k ∧ k + m = n0 ∧ acc.length = k ∧ Kd.N (Kd.int .i64) 3 wr w.heap.size (fun b => b ≠ w.heap.size ∧ some b ≠ v5.ownBlock) v4 (acc.map Prod.fst) ∧ Kd.N (Kd.slice 5 (Kd.int .u8)) 40 wr w.heap.size (fun b => b ≠ w.heap.size ∧ some b ≠ v4.ownBlock) v5 (acc.map Prod.snd) ∧ (∃ A c, RIn w wr w.heap.size A c b' d') ∧ manyIn (bothG 2 65535) m acc (b', d') = (ps, rest, bad)) (fun _ _ v7 _ => n0 - (intOf v7).toNat)
  case atStart => exact ⟨0, n0, [], b1, d1, rfl, by omega, rfl, Kd.N_nil _ _ _ _ _, Kd.N_nil _ _ _ _ _, ⟨_, _, HI1.out⟩, HRM.out⟩
  case round =>
    obtain ⟨k, m, acc, b', d', rfl, hkm, hac, hN4, hN5, ⟨Aj, cj, hI⟩, hr⟩ := hrel
    obtain ⟨A4, c4, hv4⟩ := Kd.N_slice hN4
    obtain ⟨A5, c5, hv5⟩ := Kd.N_slice hN5
    rw [List.length_map] at hv4 hv5
    rw [hac] at hv4 hv5
    subst hv4 hv5
    have h1 : wr.cell? ⟨w.heap.size, 1, none⟩ = some (.bool d') := blk_cell hI.blk 1
    have HN4 := Aside0.mk hN4
    have HN5 := Aside0.mk hN5
    have HI := Aside0.mk hI
    have HM := Aside0.mk hr
    have HAC := Aside0.mk hac
    have hz := hI.lo.size
    have hlp : w.heap.size < wr.heap.size := blk_lt hI.blk
    clear hN4 hN5 hI hr hac
    by_cases hlt : k < n0
    · cases d'
      · as_aux_lemma =>
          obtain ⟨q, rfl⟩ : ∃ q, m = q + 1 := ⟨m - 1, by omega⟩
          obtain ⟨x, b1', d1', hL⟩ : ∃ x b1' d1', lowI (b', false) 2 65535 = (x, b1', d1') := ⟨_, _, _, rfl⟩
          obtain ⟨ys, b2', d2', hG⟩ : ∃ ys b2' d2', blobG (b1', d1') = (ys, b2', d2') := ⟨_, _, _, rfl⟩
          have HG := Aside0.mk (show bothG 2 65535 (b', false) = ((x, ys), b2', d2') by unfold bothG; rw [show lowI (b', false) ((2 : Nat) : Int) 65535 = _ from hL]; dsimp only; rw [hG])
          have hr1 := rinshort_run w wr w.heap.size Aj cj b' false HI.out
          rw [hL] at hr1
          go_wp2_with fail
          refine hr1.mono ?_
          rintro r w2 ⟨rfl, ⟨Aa, ca, hI2⟩, hk2⟩
          have HI2 := Aside0.mk hI2
          have HN4a := Aside0.mk (Kd.N_keep HN4.out hk2 (fun _ h => h.1))
          have HN5a := Aside0.mk (Kd.N_keep HN5.out hk2 (fun _ h => h.1))
          have hlp2 : w.heap.size < w2.heap.size := blk_lt hI2.blk
          clear hr1 hL hI2 hk2 h1
          dsimp only
          go_wp2_with (at_builtin; go_loud (refine Kd.N_append (Kd.int .i64) (w0 := w) w.heap.size rfl (.tmp 38) (.tmp 41) 28 3 (.int .i64 0) 8 rfl Try.underlying28 (by kernel_rfl) rfl (by decide) (by decide) (.slice A4 k c4) (acc.map Prod.fst) x [.int .i64 x] (fun b => b ≠ w.heap.size ∧ some b ≠ (Value.slice A5 k c5).ownBlock) (fun _ => False) rfl rfl (FK_i64 _ x) (fun _ hk => hk.elim) (fun b hb => ⟨by omega, fun he => by have := Kd.N_lt HN5a.out b he.symm; omega⟩) HN4a.out HI2.out.lo (by omega) (by rw [List.length_map, HAC.out]; omega) ?_; intro v4' w3 ho hb3 hg hat; have HX := Aside0.mk (And.intro ho (And.intro (Kd.N_after HN5a.out hg hat) (RIn.grown HI2.out HN4a.out (by decide) hg hb3))); clear ho hb3 hg hat))
          have hr1 := rinblob_run w w3 w.heap.size Aa ca b1' d1' HX.out.2.2
          rw [hG] at hr1
          refine hr1.mono ?_
          rintro r w4 ⟨vb, rfl, hRb, ⟨Ab, cb, hI4⟩, hk4⟩
          obtain ⟨Av, cv, hvb⟩ := Kd.R_slice hRb
          subst hvb
          have HFB := Aside0.mk (FK_blob hRb)
          have HI4 := Aside0.mk hI4
          have HN4b := Aside0.mk (Kd.N_keep HX.out.1 hk4 (fun _ h => h.1))
          have HN5b := Aside0.mk (Kd.N_keep HX.out.2.1 hk4 (fun _ h => h.1))
          have HLO := Aside0.mk (show ∀ b, v4'.ownBlock = some b → b < w3.heap.size from Kd.N_lt HX.out.1)
          have HLO5 := Aside0.mk (show ∀ b, (Value.slice A5 k c5).ownBlock = some b → b < w3.heap.size from Kd.N_lt HX.out.2.1)
          have hlp3 : w.heap.size < w3.heap.size := blk_lt HX.out.2.2.blk
          have hlp4 : w.heap.size < w4.heap.size := blk_lt hI4.blk
          clear hr1 hG hRb hI4 hk4 HX
          dsimp only
          go_wp2_with (at_builtin; go_loud (refine Kd.N_append (Kd.slice 5 (Kd.int .u8)) (w0 := w) w.heap.size rfl (.tmp 43) (.tmp 46) 22 40 (.slice none 0 0) 24 rfl Try.underlying22 (by kernel_rfl) rfl (by decide) (by decide) (.slice A5 k c5) (acc.map Prod.snd) ys [.slice Av ys.length cv] (fun b => b ≠ w.heap.size ∧ some b ≠ v4'.ownBlock) (fun b => w3.heap.size ≤ b) rfl rfl HFB.out (fun b hb => ⟨⟨by omega, fun he => by have := HLO.out b he.symm; omega⟩, fun he => by have := HLO5.out b he.symm; omega⟩) (fun b hb => ⟨by omega, fun he => by have := Kd.N_lt HN4b.out b he.symm; omega⟩) HN5b.out HI4.out.lo (by omega) (by rw [List.length_map, HAC.out]; omega) ?_; intro v5' w5 ho hb5 hg hat; have HX := Aside0.mk (And.intro ho (And.intro (Kd.N_after HN4b.out hg hat) (RIn.grown HI4.out HN5b.out (by decide) hg hb5))); clear ho hb5 hg hat))
          go_roundw
          case rel => exact ⟨k + 1, q, acc ++ [(x, ys)], b2', d2', by go_num, by omega, by rw [List.length_append, HAC.out]; rfl, by rw [List.map_append]; exact HX.out.2.1, by rw [List.map_append]; exact HX.out.1, ⟨_, _, HX.out.2.2⟩, by have h := HM.out; rw [manyIn, if_neg (by simp), HG.out] at h; exact h⟩
          case measure => simp [intOf]; omega
      · as_aux_lemma =>
          have hst := manyIn_stop (bothG 2 65535) m acc (b', true) rfl
          have HX := Aside0.mk (hst.symm.trans HM.out)
          clear hst
          obtain ⟨rfl, hbd⟩ := Prod.mk.inj HX.out
          obtain ⟨rfl, rfl⟩ := Prod.mk.inj hbd
          clear hbd HX
          have HFS := Aside0.mk (fst_bad (manyR (bothG 2 65535)) [] l0 (by rw [HT.out]))
          have HDC := Aside0.mk (dec_bad (manyR (bothG 2 65535)) [] l0 (by rw [HT.out]))
          have HBw := Aside0.mk HI.out.lo
          have HP0 := Aside0.mk (show Kd.C (Kd.int .i64) wr A4 k (acc.map Prod.fst) by have h := Kd.N_reads' HN4.out; rw [← h.1] at h; exact h.2.2)
          have HQ0 := Aside0.mk (show Kd.C (Kd.slice 5 (Kd.int .u8)) wr A5 k (acc.map Prod.snd) by have h := Kd.N_reads' HN5.out; rw [← h.1] at h; exact h.2.2)
          have HI0 := HI
          clear HN4 HN5 HI HM HT
          go_wp2_with fail
          refine (short_run wr).mono ?_
          rintro r wa ⟨s1, s2, rfl, hf, hb⟩
          have HFa := Aside0.mk hf
          have HBa := Aside0.mk (below_step HBw.out hb)
          have HPa := Aside0.mk (Kd.C_below HP0.out hb)
          have HQa := Aside0.mk (Kd.C_below HQ0.out hb)
          have HIa := Aside0.mk (RIn.below HI0.out hb)
          clear hf hb
          simp only [numV]
          go_wp2_with fail
          refine (blob_make wa).mono ?_
          rintro r wb ⟨bk, e1, e2, rfl, hf, hb⟩
          have HGb := Aside0.mk hf
          have HFb := Aside0.mk (HFa.out.below hb)
          have HBb := Aside0.mk (below_step HBa.out hb)
          have HPb := Aside0.mk (Kd.C_below HPa.out hb)
          have HQb := Aside0.mk (Kd.C_below HQa.out hb)
          have HIb := Aside0.mk (RIn.below HIa.out hb)
          clear hf hb HFa HBa
          simp only [blobV]
          go_wp2_with fail
          refine (both_make _ _ _ _ wb).mono ?_
          rintro r wc ⟨rfl, hq1, hq2, hb⟩
          have HTc := Aside0.mk (show BothF wc wb.heap.size (wb.heap.size + 1) s1 s2 2 65535 bk e1 e2 from ⟨hq1, HFb.out.below hb, hq2, HGb.out.below hb⟩)
          have HBc := Aside0.mk (below_step HBb.out hb)
          have HPc := Aside0.mk (Kd.C_below HPb.out hb)
          have HQc := Aside0.mk (Kd.C_below HQb.out hb)
          have HIc := Aside0.mk (RIn.below HIb.out hb)
          clear hq1 hq2 hb HFb HGb HBb
          simp only [bothV]
          go_wp2_with fail
          refine (many_P _ _ _ _ rfl rfl wc).mono ?_
          rintro r wd ⟨bc, bf, k1, k2, rfl, hM, hb⟩
          obtain ⟨ba, hba⟩ : ∃ ba, ba = wb.heap.size := ⟨_, rfl⟩
          obtain ⟨bb, hbb⟩ : ∃ bb, bb = wb.heap.size + 1 := ⟨_, rfl⟩
          have hbl : Below wd.heap.size wd (wd.alloc (.cells (manyPV bc bf) 104)) := below_alloc (Below.refl _ _) _
          have hM0 : ManyF wd bc bf k1 k2 109 (bothV ba bb) := by rw [hba, hbb]; exact hM
          have hT0 : BothF wc ba bb s1 s2 2 65535 bk e1 e2 := by rw [hba, hbb]; exact HTc.out
          obtain ⟨q, hq⟩ : ∃ q, q = wd.heap.size := ⟨_, rfl⟩
          obtain ⟨we, hwe⟩ : ∃ we, we = wd.alloc (.cells (manyPV bc bf) 104) := ⟨_, rfl⟩
          have hnew := blk_new wd (.cells (manyPV bc bf) 104)
          rw [← hwe] at hbl hnew
          rw [← hq] at hnew
          have HMe := Aside0.mk (hM0.below hbl)
          have HTe := Aside0.mk ((hT0.below hb).below hbl)
          have HBe := Aside0.mk (below_step (below_step HBc.out hb) hbl)
          have HNe := Aside0.mk hnew
          have HWe := Aside0.mk (And.intro hq hwe)
          have HPd := Aside0.mk (Kd.C_below HPc.out hb)
          have HPe := Aside0.mk (Kd.C_below HPd.out hbl)
          have HQd := Aside0.mk (Kd.C_below HQc.out hb)
          have HQe := Aside0.mk (Kd.C_below HQd.out hbl)
          have HId := Aside0.mk (RIn.below HIc.out hb)
          have HIe := Aside0.mk (RIn.below HId.out hbl)
          clear hM hM0 hT0 hb hbl hnew hq hwe HTc HBc hba hbb
          simp only [manyPV]
          go_upto_region 13 with (fail)
          rw [show wd.alloc (.cells #[.func (.func 81) #[] #[.pointer (some ⟨bc, 0, none⟩), .pointer (some ⟨bf, 0, none⟩)], .func (.func 82) #[] #[.pointer (some ⟨bc, 0, none⟩), .pointer (some ⟨bf, 0, none⟩)]] 104) = we from HWe.out.2.symm]
          try rw [← HWe.out.1]
          go_wp2_with (at_builtin; go_loud (refine Kd.R_append_rows (Kd.int .u8) (Rr := fun x cs => cs = [.int .u8 x]) (w0 := we) we.heap.size rfl (.tmp 52) (.tmp 53) 40 5 (.int .u8 0) 1 rfl Try.underlying40 (by kernel_rfl) rfl (by decide) (by decide) (.slice (some ⟨we.heap.size, 0, none⟩) 0 0) [] l0 A0 l0.length c0 (fun _ => True) (fun _ => False) rfl rfl (empty_own we we.heap.size (Nat.le_refl _)) (Kd.C_alloc (Kd.C_below HR.out HBe.out) _) (fun _ _ h => h) (fun _ hk => hk.elim) (fun _ _ => trivial) (below_alloc (Below.refl _ _) _) (by rw [World.size_alloc]; omega) (by simp; omega) ?_; intro v2 wx ho hb2 hg hat; obtain ⟨A2, c2, hv2⟩ := Kd.R_slice ho; subst hv2; simp only [List.nil_append] at ho hat; have HX := Aside0.mk (And.intro ho hb2); have hn2 := blk_below HNe.out hb2; have d0 : wx.cell? ⟨q, 0, none⟩ = some (.func (.func 81) #[] #[.pointer (some ⟨bc, 0, none⟩), .pointer (some ⟨bf, 0, none⟩)]) := blk_cell hn2 0; have d1 : wx.cell? ⟨q, 1, none⟩ = some (.func (.func 82) #[] #[.pointer (some ⟨bc, 0, none⟩), .pointer (some ⟨bf, 0, none⟩)]) := blk_cell hn2 1; clear ho hb2 hg hat hn2))
          have h1 := dec_P wx bc bf k1 k2 ba bb s1 s2 2 65535 bk e1 e2 (HMe.out.below HX.out.2) (HTe.out.below HX.out.2) A2 c2 l0 (Kd.R_reads' HX.out.1).2.2 (Kd.R_reads' HX.out.1).2.1 HOK.out
          rw [HDC.out] at h1
          refine h1.mono ?_
          rintro r wy ⟨vx, rfl, hRx, hb⟩
          obtain ⟨Ax, cx, hvx, _, hCx⟩ := Kd.R_reads hRx
          subst hvx
          have HCx := Aside0.mk hCx
          have hbe := below_step HX.out.2 hb
          have HMy := Aside0.mk (HMe.out.below hbe)
          have HTy := Aside0.mk (HTe.out.below hbe)
          have HPy := Aside0.mk (Kd.C_below HPe.out hbe)
          have HQy := Aside0.mk (Kd.C_below HQe.out hbe)
          have HIy := Aside0.mk (HIe.out.below hbe)
          have HBy := Aside0.mk (below_step HBe.out hbe)
          have HOy := Aside0.mk (Kd.C_below (Kd.R_reads' HX.out.1).2.2 hb)
          have hny := blk_below HNe.out hbe
          have HLO := Aside0.mk (Kd.R_reads' HX.out.1).2.1
          have d2 : wy.cell? ⟨q, 0, none⟩ = some (.func (.func 81) #[] #[.pointer (some ⟨bc, 0, none⟩), .pointer (some ⟨bf, 0, none⟩)]) := blk_cell hny 0
          have d3 : wy.cell? ⟨q, 1, none⟩ = some (.func (.func 82) #[] #[.pointer (some ⟨bc, 0, none⟩), .pointer (some ⟨bf, 0, none⟩)]) := blk_cell hny 1
          clear h1 hRx hCx hb hbe hny d0 d1 HX HMe HTe HPe HQe HIe HBe HNe
          dsimp only [List.length_nil]
          go_wp2_with fail
          have h1 := fst_P wy bc bf k1 k2 ba bb s1 s2 2 65535 bk e1 e2 HMy.out HTy.out A2 c2 l0 HOy.out HLO.out HOK.out
          rw [HFS.out] at h1
          refine h1.mono ?_
          rintro r wz ⟨vy, rfl, hRy, hb⟩
          obtain ⟨Ay, cy, hvy, _, hCy⟩ := Kd.R_reads hRy
          subst hvy
          have HCz := Aside0.mk hCy
          have HXz := Aside0.mk (Kd.C_below HCx.out hb)
          have HPz := Aside0.mk (Kd.C_below HPy.out hb)
          have HQz := Aside0.mk (Kd.C_below HQy.out hb)
          have HOz := Aside0.mk (Kd.C_below HOy.out hb)
          have HIz := Aside0.mk (HIy.out.below hb)
          have HBz := Aside0.mk (below_step HBy.out hb)
          have i0 : wz.cell? ⟨w.heap.size, 0, none⟩ = some (.slice Aj b'.length cj) := blk_cell HIz.out.blk 0
          have i1 : wz.cell? ⟨w.heap.size, 1, none⟩ = some (.bool true) := blk_cell HIz.out.blk 1
          clear h1 hRy hCy hb d2 d3 HCx HMy HTy HPy HQy HOy HIy HBy HLO
          try dsimp only [List.length_nil]
          go_wp2_with fail
          go_loopw [15] (fun v15 wr => ∃ j : Nat, v15 = .int .i64 j ∧ j ≤ 0 ∧ Below wz.heap.size wz wr) (fun v15 _ => 0 - (intOf v15).toNat)
          case atStart => exact ⟨0, rfl, Nat.zero_le _, Below.refl _ _⟩
          case round =>
            obtain ⟨j, rfl, hj, hb⟩ := hrel
            have HBq := Aside0.mk hb
            clear hb
            obtain rfl : j = 0 := by omega
            go_wp2_with fail
            refine (pianolalaw01_lives.calls true _ rfl).mono ?_
            rintro r wl ⟨rfl, hb⟩
            have hbl := below_step HBq.out hb
            have HBl := Aside0.mk (below_step HBz.out hbl)
            have hIl := HIz.out.below hbl
            have i2 : wl.cell? ⟨w.heap.size, 0, none⟩ = some (.slice Aj b'.length cj) := blk_cell hIl.blk 0
            have i3 : wl.cell? ⟨w.heap.size, 1, none⟩ = some (.bool true) := blk_cell hIl.blk 1
            have u0 := Kd.C_string (P := Try.prog) (c := c2) Try.underlying40 Try.underlying5 Try.underlying9 (Kd.C_below HOz.out hbl)
            have u1 := Kd.C_string (P := Try.prog) (c := c0) Try.underlying40 Try.underlying5 Try.underlying9 (Kd.C_below HR.out HBl.out)
            clear hb hbl hIl
            go_wp2_with fail
            go_ret
            exact ⟨rfl, HBl.out⟩
    · as_aux_lemma =>
        obtain rfl : k = n0 := by omega
        obtain rfl : m = 0 := by omega
        have HX := Aside0.mk (show (acc, b', d') = (ps, rest, bad) from HM.out)
        obtain ⟨rfl, hbd⟩ := Prod.mk.inj HX.out
        obtain ⟨rfl, rfl⟩ := Prod.mk.inj hbd
        clear hbd HX hkm
        cases d'
        · by_cases hre : b'.length = 0
          · obtain rfl : b' = [] := List.length_eq_zero_iff.mp hre
            clear hre
            as_aux_lemma =>
              have HFS := Aside0.mk (show fstR (manyR (bothG 2 65535)) [] l0 = (acc, (l0.length : Int), 0) by rw [fst_good (manyR (bothG 2 65535)) [] l0 acc [] HT.out (by simp; omega)]; simp)
              have HDC := Aside0.mk (dec_good (manyR (bothG 2 65535)) [] l0 acc HT.out (by omega))
              have HBw := Aside0.mk HI.out.lo
              have HP0 := Aside0.mk (show Kd.C (Kd.int .i64) wr A4 k (acc.map Prod.fst) by have h := Kd.N_reads' HN4.out; rw [← h.1] at h; exact h.2.2)
              have HQ0 := Aside0.mk (show Kd.C (Kd.slice 5 (Kd.int .u8)) wr A5 k (acc.map Prod.snd) by have h := Kd.N_reads' HN5.out; rw [← h.1] at h; exact h.2.2)
              have HI0 := HI
              clear HN4 HN5 HI HM HT
              go_wp2_with fail
              refine (short_run wr).mono ?_
              rintro r wa ⟨s1, s2, rfl, hf, hb⟩
              have HFa := Aside0.mk hf
              have HBa := Aside0.mk (below_step HBw.out hb)
              have HPa := Aside0.mk (Kd.C_below HP0.out hb)
              have HQa := Aside0.mk (Kd.C_below HQ0.out hb)
              have HIa := Aside0.mk (RIn.below HI0.out hb)
              clear hf hb
              simp only [numV]
              go_wp2_with fail
              refine (blob_make wa).mono ?_
              rintro r wb ⟨bk, e1, e2, rfl, hf, hb⟩
              have HGb := Aside0.mk hf
              have HFb := Aside0.mk (HFa.out.below hb)
              have HBb := Aside0.mk (below_step HBa.out hb)
              have HPb := Aside0.mk (Kd.C_below HPa.out hb)
              have HQb := Aside0.mk (Kd.C_below HQa.out hb)
              have HIb := Aside0.mk (RIn.below HIa.out hb)
              clear hf hb HFa HBa
              simp only [blobV]
              go_wp2_with fail
              refine (both_make _ _ _ _ wb).mono ?_
              rintro r wc ⟨rfl, hq1, hq2, hb⟩
              have HTc := Aside0.mk (show BothF wc wb.heap.size (wb.heap.size + 1) s1 s2 2 65535 bk e1 e2 from ⟨hq1, HFb.out.below hb, hq2, HGb.out.below hb⟩)
              have HBc := Aside0.mk (below_step HBb.out hb)
              have HPc := Aside0.mk (Kd.C_below HPb.out hb)
              have HQc := Aside0.mk (Kd.C_below HQb.out hb)
              have HIc := Aside0.mk (RIn.below HIb.out hb)
              clear hq1 hq2 hb HFb HGb HBb
              simp only [bothV]
              go_wp2_with fail
              refine (many_P _ _ _ _ rfl rfl wc).mono ?_
              rintro r wd ⟨bc, bf, k1, k2, rfl, hM, hb⟩
              obtain ⟨ba, hba⟩ : ∃ ba, ba = wb.heap.size := ⟨_, rfl⟩
              obtain ⟨bb, hbb⟩ : ∃ bb, bb = wb.heap.size + 1 := ⟨_, rfl⟩
              have hbl : Below wd.heap.size wd (wd.alloc (.cells (manyPV bc bf) 104)) := below_alloc (Below.refl _ _) _
              have hM0 : ManyF wd bc bf k1 k2 109 (bothV ba bb) := by rw [hba, hbb]; exact hM
              have hT0 : BothF wc ba bb s1 s2 2 65535 bk e1 e2 := by rw [hba, hbb]; exact HTc.out
              obtain ⟨q, hq⟩ : ∃ q, q = wd.heap.size := ⟨_, rfl⟩
              obtain ⟨we, hwe⟩ : ∃ we, we = wd.alloc (.cells (manyPV bc bf) 104) := ⟨_, rfl⟩
              have hnew := blk_new wd (.cells (manyPV bc bf) 104)
              rw [← hwe] at hbl hnew
              rw [← hq] at hnew
              have HMe := Aside0.mk (hM0.below hbl)
              have HTe := Aside0.mk ((hT0.below hb).below hbl)
              have HBe := Aside0.mk (below_step (below_step HBc.out hb) hbl)
              have HNe := Aside0.mk hnew
              have HWe := Aside0.mk (And.intro hq hwe)
              have HPd := Aside0.mk (Kd.C_below HPc.out hb)
              have HPe := Aside0.mk (Kd.C_below HPd.out hbl)
              have HQd := Aside0.mk (Kd.C_below HQc.out hb)
              have HQe := Aside0.mk (Kd.C_below HQd.out hbl)
              have HId := Aside0.mk (RIn.below HIc.out hb)
              have HIe := Aside0.mk (RIn.below HId.out hbl)
              clear hM hM0 hT0 hb hbl hnew hq hwe HTc HBc hba hbb
              simp only [manyPV]
              go_upto_region 13 with (fail)
              rw [show wd.alloc (.cells #[.func (.func 81) #[] #[.pointer (some ⟨bc, 0, none⟩), .pointer (some ⟨bf, 0, none⟩)], .func (.func 82) #[] #[.pointer (some ⟨bc, 0, none⟩), .pointer (some ⟨bf, 0, none⟩)]] 104) = we from HWe.out.2.symm]
              try rw [← HWe.out.1]
              go_wp2_with (at_builtin; go_loud (refine Kd.R_append_rows (Kd.int .u8) (Rr := fun x cs => cs = [.int .u8 x]) (w0 := we) we.heap.size rfl (.tmp 52) (.tmp 53) 40 5 (.int .u8 0) 1 rfl Try.underlying40 (by kernel_rfl) rfl (by decide) (by decide) (.slice (some ⟨we.heap.size, 0, none⟩) 0 0) [] l0 A0 l0.length c0 (fun _ => True) (fun _ => False) rfl rfl (empty_own we we.heap.size (Nat.le_refl _)) (Kd.C_alloc (Kd.C_below HR.out HBe.out) _) (fun _ _ h => h) (fun _ hk => hk.elim) (fun _ _ => trivial) (below_alloc (Below.refl _ _) _) (by rw [World.size_alloc]; omega) (by simp; omega) ?_; intro v2 wx ho hb2 hg hat; obtain ⟨A2, c2, hv2⟩ := Kd.R_slice ho; subst hv2; simp only [List.nil_append] at ho hat; have HX := Aside0.mk (And.intro ho hb2); have hn2 := blk_below HNe.out hb2; have d0 : wx.cell? ⟨q, 0, none⟩ = some (.func (.func 81) #[] #[.pointer (some ⟨bc, 0, none⟩), .pointer (some ⟨bf, 0, none⟩)]) := blk_cell hn2 0; have d1 : wx.cell? ⟨q, 1, none⟩ = some (.func (.func 82) #[] #[.pointer (some ⟨bc, 0, none⟩), .pointer (some ⟨bf, 0, none⟩)]) := blk_cell hn2 1; clear ho hb2 hg hat hn2))
              have h1 := dec_P wx bc bf k1 k2 ba bb s1 s2 2 65535 bk e1 e2 (HMe.out.below HX.out.2) (HTe.out.below HX.out.2) A2 c2 l0 (Kd.R_reads' HX.out.1).2.2 (Kd.R_reads' HX.out.1).2.1 HOK.out
              rw [HDC.out] at h1
              refine h1.mono ?_
              rintro r wy ⟨vx, rfl, hRx, hb⟩
              obtain ⟨Ax, cx, hvx, _, hCx⟩ := Kd.R_reads hRx
              subst hvx
              have HCx := Aside0.mk hCx
              have hbe := below_step HX.out.2 hb
              have HMy := Aside0.mk (HMe.out.below hbe)
              have HTy := Aside0.mk (HTe.out.below hbe)
              have HPy := Aside0.mk (Kd.C_below HPe.out hbe)
              have HQy := Aside0.mk (Kd.C_below HQe.out hbe)
              have HIy := Aside0.mk (HIe.out.below hbe)
              have HBy := Aside0.mk (below_step HBe.out hbe)
              have HOy := Aside0.mk (Kd.C_below (Kd.R_reads' HX.out.1).2.2 hb)
              have hny := blk_below HNe.out hbe
              have HLO := Aside0.mk (Kd.R_reads' HX.out.1).2.1
              have d2 : wy.cell? ⟨q, 0, none⟩ = some (.func (.func 81) #[] #[.pointer (some ⟨bc, 0, none⟩), .pointer (some ⟨bf, 0, none⟩)]) := blk_cell hny 0
              have d3 : wy.cell? ⟨q, 1, none⟩ = some (.func (.func 82) #[] #[.pointer (some ⟨bc, 0, none⟩), .pointer (some ⟨bf, 0, none⟩)]) := blk_cell hny 1
              clear h1 hRx hCx hb hbe hny d0 d1 HX HMe HTe HPe HQe HIe HBe HNe
              dsimp only [List.length_nil]
              go_wp2_with fail
              have h1 := fst_P wy bc bf k1 k2 ba bb s1 s2 2 65535 bk e1 e2 HMy.out HTy.out A2 c2 l0 HOy.out HLO.out HOK.out
              rw [HFS.out] at h1
              refine h1.mono ?_
              rintro r wz ⟨vy, rfl, hRy, hb⟩
              obtain ⟨Ay, cy, hvy, _, hCy⟩ := Kd.R_reads hRy
              subst hvy
              have HCz := Aside0.mk hCy
              have HXz := Aside0.mk (Kd.C_below HCx.out hb)
              have HPz := Aside0.mk (Kd.C_below HPy.out hb)
              have HQz := Aside0.mk (Kd.C_below HQy.out hb)
              have HOz := Aside0.mk (Kd.C_below HOy.out hb)
              have HIz := Aside0.mk (HIy.out.below hb)
              have HBz := Aside0.mk (below_step HBy.out hb)
              have i0 : wz.cell? ⟨w.heap.size, 0, none⟩ = some (.slice Aj ([] : List Int).length cj) := blk_cell HIz.out.blk 0
              have i1 : wz.cell? ⟨w.heap.size, 1, none⟩ = some (.bool false) := blk_cell HIz.out.blk 1
              clear h1 hRy hCy hb d2 d3 HCx HMy HTy HPy HQy HOy HIy HBy HLO
              dsimp only [List.length_nil] at i0 ⊢
              rw [HAC.out] at HCz
              rw [HAC.out] at HXz
              rw [HAC.out]
              go_wp2_with fail
              go_loopw [15] (fun v15 wr => ∃ j : Nat, v15 = .int .i64 j ∧ j ≤ k ∧ Below wz.heap.size wz wr) (fun v15 _ => k - (intOf v15).toNat)
              case atStart => exact ⟨0, rfl, Nat.zero_le _, Below.refl _ _⟩
              case round =>
                obtain ⟨j, rfl, hj, hb⟩ := hrel
                have HBq := Aside0.mk hb
                clear hb
                by_cases hlt : j < k
                · obtain ⟨ad, A4', hc0'⟩ := Kd.at_int HPz.out (j : Int) (by omega) (by omega)
                  obtain ⟨ae, Ab, cb, A5', hd0', hlc, hCb⟩ := at_blobs HQz.out j (by omega)
                  obtain ⟨ag, Ag, cg, hA2, hx0, hx1, hlg, hCg⟩ := at_pairs HCz.out j (by omega)
                  rw [Int.toNat_natCast] at hc0'
                  rw [rd_fst acc j (by rw [HAC.out]; exact hlt)] at hc0'
                  rw [get_snd acc j (by rw [HAC.out]; exact hlt)] at hd0' hlc hCb
                  subst A4' A5' hA2
                  have c1' := pw_cell_below HBq.out hc0'
                  have c2' := pw_cell_below HBq.out hd0'
                  have c3' := pw_cell_below HBq.out hx0
                  have c4' := pw_cell_below HBq.out hx1
                  have hCb' := Kd.C_below hCb HBq.out
                  have hCg' := Kd.C_below hCg HBq.out
                  obtain ⟨x, hx⟩ : ∃ x, x = (acc.getD j (0, [])).1 := ⟨_, rfl⟩
                  obtain ⟨ys, hys⟩ : ∃ ys, ys = (acc.getD j (0, [])).2 := ⟨_, rfl⟩
                  rw [← hx] at c1' c3'
                  rw [← hys] at c2' c4' hCb' hCg'
                  have v0 : ∀ nq, (convert 40 9 (.slice Ab ys.length cb)).run Try.prog (wr.drewN nq) = .ok (.string (strOfNums ys)) (wr.drewN nq) := fun nq => Kd.C_string Try.underlying40 Try.underlying5 Try.underlying9 (Kd.C_drewN hCb' nq)
                  have v1 : ∀ nq, (convert 40 9 (.slice Ag ys.length cg)).run Try.prog (wr.drewN nq) = .ok (.string (strOfNums ys)) (wr.drewN nq) := fun nq => Kd.C_string Try.underlying40 Try.underlying5 Try.underlying9 (Kd.C_drewN hCg' nq)
                  clear hc0' hd0' hx0 hx1 hx hys hCb hCg hCb' hCg' hlc hlg
                  go_upto_region 21 with (fail)
                  go_quiet (fail)
                  have HB' := Aside0.mk (below_dN HBq.out nq)
                  go_wp2_with fail
                  go_roundw
                  case rel => exact ⟨j + 1, by go_num, by omega, HB'.out⟩
                  case measure => simp [intOf]; omega
                · have hjk : k = j := by omega
                  subst hjk
                  clear hlt hj
                  go_wp2_with fail
                  refine (pianolalaw01_lives.calls true _ rfl).mono ?_
                  rintro r wl ⟨rfl, hb⟩
                  have hbl := below_step HBq.out hb
                  have HBl := Aside0.mk (below_step HBz.out hbl)
                  have hIl := HIz.out.below hbl
                  have i2 : wl.cell? ⟨w.heap.size, 0, none⟩ = some (.slice Aj ([] : List Int).length cj) := blk_cell hIl.blk 0
                  have i3 : wl.cell? ⟨w.heap.size, 1, none⟩ = some (.bool false) := blk_cell hIl.blk 1
                  have u0 := Kd.C_string (P := Try.prog) (c := c2) Try.underlying40 Try.underlying5 Try.underlying9 (Kd.C_below HOz.out hbl)
                  have u1 := Kd.C_string (P := Try.prog) (c := c0) Try.underlying40 Try.underlying5 Try.underlying9 (Kd.C_below HR.out HBl.out)
                  have HXl := Aside0.mk (Kd.C_below HXz.out hbl)
                  have HPl := Aside0.mk (Kd.C_below HPz.out hbl)
                  have HQl := Aside0.mk (Kd.C_below HQz.out hbl)
                  clear hb hbl hIl
                  dsimp only [List.length_nil] at i2
                  go_wp2_with fail
                  go_loopw [16] (fun v16 wr => ∃ j : Nat, v16 = .int .i64 j ∧ j ≤ k ∧ Below wl.heap.size wl wr) (fun v16 _ => k - (intOf v16).toNat)
                  case atStart => exact ⟨0, rfl, Nat.zero_le _, Below.refl _ _⟩
                  case round =>
                    obtain ⟨j, rfl, hj, hb⟩ := hrel
                    have HBq := Aside0.mk hb
                    clear hb
                    by_cases hlt : j < k
                    · obtain ⟨ad, A4', hc0'⟩ := Kd.at_int HPl.out (j : Int) (by omega) (by omega)
                      obtain ⟨ae, Ab, cb, A5', hd0', hlc, hCb⟩ := at_blobs HQl.out j (by omega)
                      obtain ⟨ag, Ag, cg, hA2, hx0, hx1, hlg, hCg⟩ := at_pairs HXl.out j (by omega)
                      rw [Int.toNat_natCast] at hc0'
                      rw [rd_fst acc j (by rw [HAC.out]; exact hlt)] at hc0'
                      rw [get_snd acc j (by rw [HAC.out]; exact hlt)] at hd0' hlc hCb
                      subst A4' A5' hA2
                      have c1' := pw_cell_below HBq.out hc0'
                      have c2' := pw_cell_below HBq.out hd0'
                      have c3' := pw_cell_below HBq.out hx0
                      have c4' := pw_cell_below HBq.out hx1
                      have hCb' := Kd.C_below hCb HBq.out
                      have hCg' := Kd.C_below hCg HBq.out
                      obtain ⟨x, hx⟩ : ∃ x, x = (acc.getD j (0, [])).1 := ⟨_, rfl⟩
                      obtain ⟨ys, hys⟩ : ∃ ys, ys = (acc.getD j (0, [])).2 := ⟨_, rfl⟩
                      rw [← hx] at c1' c3'
                      rw [← hys] at c2' c4' hCb' hCg'
                      have v0 : ∀ nq, (convert 40 9 (.slice Ab ys.length cb)).run Try.prog (wr.drewN nq) = .ok (.string (strOfNums ys)) (wr.drewN nq) := fun nq => Kd.C_string Try.underlying40 Try.underlying5 Try.underlying9 (Kd.C_drewN hCb' nq)
                      have v1 : ∀ nq, (convert 40 9 (.slice Ag ys.length cg)).run Try.prog (wr.drewN nq) = .ok (.string (strOfNums ys)) (wr.drewN nq) := fun nq => Kd.C_string Try.underlying40 Try.underlying5 Try.underlying9 (Kd.C_drewN hCg' nq)
                      clear hc0' hd0' hx0 hx1 hx hys hCb hCg hCb' hCg' hlc hlg
                      go_upto_region 30 with (fail)
                      go_quiet (fail)
                      have HB' := Aside0.mk (below_dN HBq.out nq)
                      go_wp2_with fail
                      go_roundw
                      case rel => exact ⟨j + 1, by go_num, by omega, HB'.out⟩
                      case measure => simp [intOf]; omega
                    · have hjk : k = j := by omega
                      subst hjk
                      clear hlt hj
                      go_wp2_with fail
                      go_ret
                      exact ⟨rfl, below_step HBl.out HBq.out⟩
          · as_aux_lemma =>
              have hbk := HBK.out
              have HFS := Aside0.mk (fst_good (manyR (bothG 2 65535)) [] l0 acc b' HT.out (by omega))
              have HDC := Aside0.mk (dec_more (manyR (bothG 2 65535)) [] l0 acc b' HT.out (by omega) (by omega))
              have hne0 : ¬ b' = [] := by rintro rfl; exact hre rfl
              have hb0 : ((b'.length : Int) == 0) = false := by rw [beq_eq_false_iff_ne]; omega
              have HBw := Aside0.mk HI.out.lo
              have HP0 := Aside0.mk (show Kd.C (Kd.int .i64) wr A4 k (acc.map Prod.fst) by have h := Kd.N_reads' HN4.out; rw [← h.1] at h; exact h.2.2)
              have HQ0 := Aside0.mk (show Kd.C (Kd.slice 5 (Kd.int .u8)) wr A5 k (acc.map Prod.snd) by have h := Kd.N_reads' HN5.out; rw [← h.1] at h; exact h.2.2)
              have HI0 := HI
              clear HN4 HN5 HI HM HT
              go_wp2_with fail
              refine (short_run wr).mono ?_
              rintro r wa ⟨s1, s2, rfl, hf, hb⟩
              have HFa := Aside0.mk hf
              have HBa := Aside0.mk (below_step HBw.out hb)
              have HPa := Aside0.mk (Kd.C_below HP0.out hb)
              have HQa := Aside0.mk (Kd.C_below HQ0.out hb)
              have HIa := Aside0.mk (RIn.below HI0.out hb)
              clear hf hb
              simp only [numV]
              go_wp2_with fail
              refine (blob_make wa).mono ?_
              rintro r wb ⟨bk, e1, e2, rfl, hf, hb⟩
              have HGb := Aside0.mk hf
              have HFb := Aside0.mk (HFa.out.below hb)
              have HBb := Aside0.mk (below_step HBa.out hb)
              have HPb := Aside0.mk (Kd.C_below HPa.out hb)
              have HQb := Aside0.mk (Kd.C_below HQa.out hb)
              have HIb := Aside0.mk (RIn.below HIa.out hb)
              clear hf hb HFa HBa
              simp only [blobV]
              go_wp2_with fail
              refine (both_make _ _ _ _ wb).mono ?_
              rintro r wc ⟨rfl, hq1, hq2, hb⟩
              have HTc := Aside0.mk (show BothF wc wb.heap.size (wb.heap.size + 1) s1 s2 2 65535 bk e1 e2 from ⟨hq1, HFb.out.below hb, hq2, HGb.out.below hb⟩)
              have HBc := Aside0.mk (below_step HBb.out hb)
              have HPc := Aside0.mk (Kd.C_below HPb.out hb)
              have HQc := Aside0.mk (Kd.C_below HQb.out hb)
              have HIc := Aside0.mk (RIn.below HIb.out hb)
              clear hq1 hq2 hb HFb HGb HBb
              simp only [bothV]
              go_wp2_with fail
              refine (many_P _ _ _ _ rfl rfl wc).mono ?_
              rintro r wd ⟨bc, bf, k1, k2, rfl, hM, hb⟩
              obtain ⟨ba, hba⟩ : ∃ ba, ba = wb.heap.size := ⟨_, rfl⟩
              obtain ⟨bb, hbb⟩ : ∃ bb, bb = wb.heap.size + 1 := ⟨_, rfl⟩
              have hbl : Below wd.heap.size wd (wd.alloc (.cells (manyPV bc bf) 104)) := below_alloc (Below.refl _ _) _
              have hM0 : ManyF wd bc bf k1 k2 109 (bothV ba bb) := by rw [hba, hbb]; exact hM
              have hT0 : BothF wc ba bb s1 s2 2 65535 bk e1 e2 := by rw [hba, hbb]; exact HTc.out
              obtain ⟨q, hq⟩ : ∃ q, q = wd.heap.size := ⟨_, rfl⟩
              obtain ⟨we, hwe⟩ : ∃ we, we = wd.alloc (.cells (manyPV bc bf) 104) := ⟨_, rfl⟩
              have hnew := blk_new wd (.cells (manyPV bc bf) 104)
              rw [← hwe] at hbl hnew
              rw [← hq] at hnew
              have HMe := Aside0.mk (hM0.below hbl)
              have HTe := Aside0.mk ((hT0.below hb).below hbl)
              have HBe := Aside0.mk (below_step (below_step HBc.out hb) hbl)
              have HNe := Aside0.mk hnew
              have HWe := Aside0.mk (And.intro hq hwe)
              have HPd := Aside0.mk (Kd.C_below HPc.out hb)
              have HPe := Aside0.mk (Kd.C_below HPd.out hbl)
              have HQd := Aside0.mk (Kd.C_below HQc.out hb)
              have HQe := Aside0.mk (Kd.C_below HQd.out hbl)
              have HId := Aside0.mk (RIn.below HIc.out hb)
              have HIe := Aside0.mk (RIn.below HId.out hbl)
              clear hM hM0 hT0 hb hbl hnew hq hwe HTc HBc hba hbb
              simp only [manyPV]
              go_upto_region 13 with (fail)
              rw [show wd.alloc (.cells #[.func (.func 81) #[] #[.pointer (some ⟨bc, 0, none⟩), .pointer (some ⟨bf, 0, none⟩)], .func (.func 82) #[] #[.pointer (some ⟨bc, 0, none⟩), .pointer (some ⟨bf, 0, none⟩)]] 104) = we from HWe.out.2.symm]
              try rw [← HWe.out.1]
              go_wp2_with (at_builtin; go_loud (refine Kd.R_append_rows (Kd.int .u8) (Rr := fun x cs => cs = [.int .u8 x]) (w0 := we) we.heap.size rfl (.tmp 52) (.tmp 53) 40 5 (.int .u8 0) 1 rfl Try.underlying40 (by kernel_rfl) rfl (by decide) (by decide) (.slice (some ⟨we.heap.size, 0, none⟩) 0 0) [] l0 A0 l0.length c0 (fun _ => True) (fun _ => False) rfl rfl (empty_own we we.heap.size (Nat.le_refl _)) (Kd.C_alloc (Kd.C_below HR.out HBe.out) _) (fun _ _ h => h) (fun _ hk => hk.elim) (fun _ _ => trivial) (below_alloc (Below.refl _ _) _) (by rw [World.size_alloc]; omega) (by simp; omega) ?_; intro v2 wx ho hb2 hg hat; obtain ⟨A2, c2, hv2⟩ := Kd.R_slice ho; subst hv2; simp only [List.nil_append] at ho hat; have HX := Aside0.mk (And.intro ho hb2); have hn2 := blk_below HNe.out hb2; have d0 : wx.cell? ⟨q, 0, none⟩ = some (.func (.func 81) #[] #[.pointer (some ⟨bc, 0, none⟩), .pointer (some ⟨bf, 0, none⟩)]) := blk_cell hn2 0; have d1 : wx.cell? ⟨q, 1, none⟩ = some (.func (.func 82) #[] #[.pointer (some ⟨bc, 0, none⟩), .pointer (some ⟨bf, 0, none⟩)]) := blk_cell hn2 1; clear ho hb2 hg hat hn2))
              have h1 := dec_P wx bc bf k1 k2 ba bb s1 s2 2 65535 bk e1 e2 (HMe.out.below HX.out.2) (HTe.out.below HX.out.2) A2 c2 l0 (Kd.R_reads' HX.out.1).2.2 (Kd.R_reads' HX.out.1).2.1 HOK.out
              rw [HDC.out] at h1
              refine h1.mono ?_
              rintro r wy ⟨vx, rfl, hRx, hb⟩
              obtain ⟨Ax, cx, hvx, _, hCx⟩ := Kd.R_reads hRx
              subst hvx
              have HCx := Aside0.mk hCx
              have hbe := below_step HX.out.2 hb
              have HMy := Aside0.mk (HMe.out.below hbe)
              have HTy := Aside0.mk (HTe.out.below hbe)
              have HPy := Aside0.mk (Kd.C_below HPe.out hbe)
              have HQy := Aside0.mk (Kd.C_below HQe.out hbe)
              have HIy := Aside0.mk (HIe.out.below hbe)
              have HBy := Aside0.mk (below_step HBe.out hbe)
              have HOy := Aside0.mk (Kd.C_below (Kd.R_reads' HX.out.1).2.2 hb)
              have hny := blk_below HNe.out hbe
              have HLO := Aside0.mk (Kd.R_reads' HX.out.1).2.1
              have d2 : wy.cell? ⟨q, 0, none⟩ = some (.func (.func 81) #[] #[.pointer (some ⟨bc, 0, none⟩), .pointer (some ⟨bf, 0, none⟩)]) := blk_cell hny 0
              have d3 : wy.cell? ⟨q, 1, none⟩ = some (.func (.func 82) #[] #[.pointer (some ⟨bc, 0, none⟩), .pointer (some ⟨bf, 0, none⟩)]) := blk_cell hny 1
              clear h1 hRx hCx hb hbe hny d0 d1 HX HMe HTe HPe HQe HIe HBe HNe
              dsimp only [List.length_nil]
              go_wp2_with fail
              have h1 := fst_P wy bc bf k1 k2 ba bb s1 s2 2 65535 bk e1 e2 HMy.out HTy.out A2 c2 l0 HOy.out HLO.out HOK.out
              rw [HFS.out] at h1
              refine h1.mono ?_
              rintro r wz ⟨vy, rfl, hRy, hb⟩
              obtain ⟨Ay, cy, hvy, _, hCy⟩ := Kd.R_reads hRy
              subst hvy
              have HCz := Aside0.mk hCy
              have HXz := Aside0.mk (Kd.C_below HCx.out hb)
              have HPz := Aside0.mk (Kd.C_below HPy.out hb)
              have HQz := Aside0.mk (Kd.C_below HQy.out hb)
              have HOz := Aside0.mk (Kd.C_below HOy.out hb)
              have HIz := Aside0.mk (HIy.out.below hb)
              have HBz := Aside0.mk (below_step HBy.out hb)
              have i0 : wz.cell? ⟨w.heap.size, 0, none⟩ = some (.slice Aj b'.length cj) := blk_cell HIz.out.blk 0
              have i1 : wz.cell? ⟨w.heap.size, 1, none⟩ = some (.bool false) := blk_cell HIz.out.blk 1
              clear h1 hRy hCy hb d2 d3 HCx HMy HTy HPy HQy HOy HIy HBy HLO
              try dsimp only [List.length_nil]
              rw [HAC.out] at HCz
              rw [HAC.out]
              go_wp2_with fail
              go_loopw [15] (fun v15 wr => ∃ j : Nat, v15 = .int .i64 j ∧ j ≤ k ∧ Below wz.heap.size wz wr) (fun v15 _ => k - (intOf v15).toNat)
              case atStart => exact ⟨0, rfl, Nat.zero_le _, Below.refl _ _⟩
              case round =>
                obtain ⟨j, rfl, hj, hb⟩ := hrel
                have HBq := Aside0.mk hb
                clear hb
                by_cases hlt : j < k
                · obtain ⟨ad, A4', hc0'⟩ := Kd.at_int HPz.out (j : Int) (by omega) (by omega)
                  obtain ⟨ae, Ab, cb, A5', hd0', hlc, hCb⟩ := at_blobs HQz.out j (by omega)
                  obtain ⟨ag, Ag, cg, hA2, hx0, hx1, hlg, hCg⟩ := at_pairs HCz.out j (by omega)
                  rw [Int.toNat_natCast] at hc0'
                  rw [rd_fst acc j (by rw [HAC.out]; exact hlt)] at hc0'
                  rw [get_snd acc j (by rw [HAC.out]; exact hlt)] at hd0' hlc hCb
                  subst A4' A5' hA2
                  have c1' := pw_cell_below HBq.out hc0'
                  have c2' := pw_cell_below HBq.out hd0'
                  have c3' := pw_cell_below HBq.out hx0
                  have c4' := pw_cell_below HBq.out hx1
                  have hCb' := Kd.C_below hCb HBq.out
                  have hCg' := Kd.C_below hCg HBq.out
                  obtain ⟨x, hx⟩ : ∃ x, x = (acc.getD j (0, [])).1 := ⟨_, rfl⟩
                  obtain ⟨ys, hys⟩ : ∃ ys, ys = (acc.getD j (0, [])).2 := ⟨_, rfl⟩
                  rw [← hx] at c1' c3'
                  rw [← hys] at c2' c4' hCb' hCg'
                  have v0 : ∀ nq, (convert 40 9 (.slice Ab ys.length cb)).run Try.prog (wr.drewN nq) = .ok (.string (strOfNums ys)) (wr.drewN nq) := fun nq => Kd.C_string Try.underlying40 Try.underlying5 Try.underlying9 (Kd.C_drewN hCb' nq)
                  have v1 : ∀ nq, (convert 40 9 (.slice Ag ys.length cg)).run Try.prog (wr.drewN nq) = .ok (.string (strOfNums ys)) (wr.drewN nq) := fun nq => Kd.C_string Try.underlying40 Try.underlying5 Try.underlying9 (Kd.C_drewN hCg' nq)
                  clear hc0' hd0' hx0 hx1 hx hys hCb hCg hCb' hCg' hlc hlg
                  go_upto_region 21 with (fail)
                  go_quiet (fail)
                  have HB' := Aside0.mk (below_dN HBq.out nq)
                  go_wp2_with fail
                  go_roundw
                  case rel => exact ⟨j + 1, by go_num, by omega, HB'.out⟩
                  case measure => simp [intOf]; omega
                · have hjk : k = j := by omega
                  subst hjk
                  clear hlt hj
                  go_wp2_with fail
                  refine (pianolalaw01_lives.calls true _ rfl).mono ?_
                  rintro r wl ⟨rfl, hb⟩
                  have hbl := below_step HBq.out hb
                  have HBl := Aside0.mk (below_step HBz.out hbl)
                  have hIl := HIz.out.below hbl
                  have i2 : wl.cell? ⟨w.heap.size, 0, none⟩ = some (.slice Aj b'.length cj) := blk_cell hIl.blk 0
                  have i3 : wl.cell? ⟨w.heap.size, 1, none⟩ = some (.bool false) := blk_cell hIl.blk 1
                  have u0 := Kd.C_string (P := Try.prog) (c := c2) Try.underlying40 Try.underlying5 Try.underlying9 (Kd.C_below HOz.out hbl)
                  have u1 := Kd.C_string (P := Try.prog) (c := c0) Try.underlying40 Try.underlying5 Try.underlying9 (Kd.C_below HR.out HBl.out)
                  clear hb hbl hIl
                  go_wp2_with fail
                  go_ret
                  exact ⟨rfl, HBl.out⟩
        · as_aux_lemma =>
          have HFS := Aside0.mk (fst_bad (manyR (bothG 2 65535)) [] l0 (by rw [HT.out]))
          have HDC := Aside0.mk (dec_bad (manyR (bothG 2 65535)) [] l0 (by rw [HT.out]))
          have HBw := Aside0.mk HI.out.lo
          have HP0 := Aside0.mk (show Kd.C (Kd.int .i64) wr A4 k (acc.map Prod.fst) by have h := Kd.N_reads' HN4.out; rw [← h.1] at h; exact h.2.2)
          have HQ0 := Aside0.mk (show Kd.C (Kd.slice 5 (Kd.int .u8)) wr A5 k (acc.map Prod.snd) by have h := Kd.N_reads' HN5.out; rw [← h.1] at h; exact h.2.2)
          have HI0 := HI
          clear HN4 HN5 HI HM HT
          go_wp2_with fail
          refine (short_run wr).mono ?_
          rintro r wa ⟨s1, s2, rfl, hf, hb⟩
          have HFa := Aside0.mk hf
          have HBa := Aside0.mk (below_step HBw.out hb)
          have HPa := Aside0.mk (Kd.C_below HP0.out hb)
          have HQa := Aside0.mk (Kd.C_below HQ0.out hb)
          have HIa := Aside0.mk (RIn.below HI0.out hb)
          clear hf hb
          simp only [numV]
          go_wp2_with fail
          refine (blob_make wa).mono ?_
          rintro r wb ⟨bk, e1, e2, rfl, hf, hb⟩
          have HGb := Aside0.mk hf
          have HFb := Aside0.mk (HFa.out.below hb)
          have HBb := Aside0.mk (below_step HBa.out hb)
          have HPb := Aside0.mk (Kd.C_below HPa.out hb)
          have HQb := Aside0.mk (Kd.C_below HQa.out hb)
          have HIb := Aside0.mk (RIn.below HIa.out hb)
          clear hf hb HFa HBa
          simp only [blobV]
          go_wp2_with fail
          refine (both_make _ _ _ _ wb).mono ?_
          rintro r wc ⟨rfl, hq1, hq2, hb⟩
          have HTc := Aside0.mk (show BothF wc wb.heap.size (wb.heap.size + 1) s1 s2 2 65535 bk e1 e2 from ⟨hq1, HFb.out.below hb, hq2, HGb.out.below hb⟩)
          have HBc := Aside0.mk (below_step HBb.out hb)
          have HPc := Aside0.mk (Kd.C_below HPb.out hb)
          have HQc := Aside0.mk (Kd.C_below HQb.out hb)
          have HIc := Aside0.mk (RIn.below HIb.out hb)
          clear hq1 hq2 hb HFb HGb HBb
          simp only [bothV]
          go_wp2_with fail
          refine (many_P _ _ _ _ rfl rfl wc).mono ?_
          rintro r wd ⟨bc, bf, k1, k2, rfl, hM, hb⟩
          obtain ⟨ba, hba⟩ : ∃ ba, ba = wb.heap.size := ⟨_, rfl⟩
          obtain ⟨bb, hbb⟩ : ∃ bb, bb = wb.heap.size + 1 := ⟨_, rfl⟩
          have hbl : Below wd.heap.size wd (wd.alloc (.cells (manyPV bc bf) 104)) := below_alloc (Below.refl _ _) _
          have hM0 : ManyF wd bc bf k1 k2 109 (bothV ba bb) := by rw [hba, hbb]; exact hM
          have hT0 : BothF wc ba bb s1 s2 2 65535 bk e1 e2 := by rw [hba, hbb]; exact HTc.out
          obtain ⟨q, hq⟩ : ∃ q, q = wd.heap.size := ⟨_, rfl⟩
          obtain ⟨we, hwe⟩ : ∃ we, we = wd.alloc (.cells (manyPV bc bf) 104) := ⟨_, rfl⟩
          have hnew := blk_new wd (.cells (manyPV bc bf) 104)
          rw [← hwe] at hbl hnew
          rw [← hq] at hnew
          have HMe := Aside0.mk (hM0.below hbl)
          have HTe := Aside0.mk ((hT0.below hb).below hbl)
          have HBe := Aside0.mk (below_step (below_step HBc.out hb) hbl)
          have HNe := Aside0.mk hnew
          have HWe := Aside0.mk (And.intro hq hwe)
          have HPd := Aside0.mk (Kd.C_below HPc.out hb)
          have HPe := Aside0.mk (Kd.C_below HPd.out hbl)
          have HQd := Aside0.mk (Kd.C_below HQc.out hb)
          have HQe := Aside0.mk (Kd.C_below HQd.out hbl)
          have HId := Aside0.mk (RIn.below HIc.out hb)
          have HIe := Aside0.mk (RIn.below HId.out hbl)
          clear hM hM0 hT0 hb hbl hnew hq hwe HTc HBc hba hbb
          simp only [manyPV]
          go_upto_region 13 with (fail)
          rw [show wd.alloc (.cells #[.func (.func 81) #[] #[.pointer (some ⟨bc, 0, none⟩), .pointer (some ⟨bf, 0, none⟩)], .func (.func 82) #[] #[.pointer (some ⟨bc, 0, none⟩), .pointer (some ⟨bf, 0, none⟩)]] 104) = we from HWe.out.2.symm]
          try rw [← HWe.out.1]
          go_wp2_with (at_builtin; go_loud (refine Kd.R_append_rows (Kd.int .u8) (Rr := fun x cs => cs = [.int .u8 x]) (w0 := we) we.heap.size rfl (.tmp 52) (.tmp 53) 40 5 (.int .u8 0) 1 rfl Try.underlying40 (by kernel_rfl) rfl (by decide) (by decide) (.slice (some ⟨we.heap.size, 0, none⟩) 0 0) [] l0 A0 l0.length c0 (fun _ => True) (fun _ => False) rfl rfl (empty_own we we.heap.size (Nat.le_refl _)) (Kd.C_alloc (Kd.C_below HR.out HBe.out) _) (fun _ _ h => h) (fun _ hk => hk.elim) (fun _ _ => trivial) (below_alloc (Below.refl _ _) _) (by rw [World.size_alloc]; omega) (by simp; omega) ?_; intro v2 wx ho hb2 hg hat; obtain ⟨A2, c2, hv2⟩ := Kd.R_slice ho; subst hv2; simp only [List.nil_append] at ho hat; have HX := Aside0.mk (And.intro ho hb2); have hn2 := blk_below HNe.out hb2; have d0 : wx.cell? ⟨q, 0, none⟩ = some (.func (.func 81) #[] #[.pointer (some ⟨bc, 0, none⟩), .pointer (some ⟨bf, 0, none⟩)]) := blk_cell hn2 0; have d1 : wx.cell? ⟨q, 1, none⟩ = some (.func (.func 82) #[] #[.pointer (some ⟨bc, 0, none⟩), .pointer (some ⟨bf, 0, none⟩)]) := blk_cell hn2 1; clear ho hb2 hg hat hn2))
          have h1 := dec_P wx bc bf k1 k2 ba bb s1 s2 2 65535 bk e1 e2 (HMe.out.below HX.out.2) (HTe.out.below HX.out.2) A2 c2 l0 (Kd.R_reads' HX.out.1).2.2 (Kd.R_reads' HX.out.1).2.1 HOK.out
          rw [HDC.out] at h1
          refine h1.mono ?_
          rintro r wy ⟨vx, rfl, hRx, hb⟩
          obtain ⟨Ax, cx, hvx, _, hCx⟩ := Kd.R_reads hRx
          subst hvx
          have HCx := Aside0.mk hCx
          have hbe := below_step HX.out.2 hb
          have HMy := Aside0.mk (HMe.out.below hbe)
          have HTy := Aside0.mk (HTe.out.below hbe)
          have HPy := Aside0.mk (Kd.C_below HPe.out hbe)
          have HQy := Aside0.mk (Kd.C_below HQe.out hbe)
          have HIy := Aside0.mk (HIe.out.below hbe)
          have HBy := Aside0.mk (below_step HBe.out hbe)
          have HOy := Aside0.mk (Kd.C_below (Kd.R_reads' HX.out.1).2.2 hb)
          have hny := blk_below HNe.out hbe
          have HLO := Aside0.mk (Kd.R_reads' HX.out.1).2.1
          have d2 : wy.cell? ⟨q, 0, none⟩ = some (.func (.func 81) #[] #[.pointer (some ⟨bc, 0, none⟩), .pointer (some ⟨bf, 0, none⟩)]) := blk_cell hny 0
          have d3 : wy.cell? ⟨q, 1, none⟩ = some (.func (.func 82) #[] #[.pointer (some ⟨bc, 0, none⟩), .pointer (some ⟨bf, 0, none⟩)]) := blk_cell hny 1
          clear h1 hRx hCx hb hbe hny d0 d1 HX HMe HTe HPe HQe HIe HBe HNe
          dsimp only [List.length_nil]
          go_wp2_with fail
          have h1 := fst_P wy bc bf k1 k2 ba bb s1 s2 2 65535 bk e1 e2 HMy.out HTy.out A2 c2 l0 HOy.out HLO.out HOK.out
          rw [HFS.out] at h1
          refine h1.mono ?_
          rintro r wz ⟨vy, rfl, hRy, hb⟩
          obtain ⟨Ay, cy, hvy, _, hCy⟩ := Kd.R_reads hRy
          subst hvy
          have HCz := Aside0.mk hCy
          have HXz := Aside0.mk (Kd.C_below HCx.out hb)
          have HPz := Aside0.mk (Kd.C_below HPy.out hb)
          have HQz := Aside0.mk (Kd.C_below HQy.out hb)
          have HOz := Aside0.mk (Kd.C_below HOy.out hb)
          have HIz := Aside0.mk (HIy.out.below hb)
          have HBz := Aside0.mk (below_step HBy.out hb)
          have i0 : wz.cell? ⟨w.heap.size, 0, none⟩ = some (.slice Aj b'.length cj) := blk_cell HIz.out.blk 0
          have i1 : wz.cell? ⟨w.heap.size, 1, none⟩ = some (.bool true) := blk_cell HIz.out.blk 1
          clear h1 hRy hCy hb d2 d3 HCx HMy HTy HPy HQy HOy HIy HBy HLO
          try dsimp only [List.length_nil]
          go_wp2_with fail
          go_loopw [15] (fun v15 wr => ∃ j : Nat, v15 = .int .i64 j ∧ j ≤ 0 ∧ Below wz.heap.size wz wr) (fun v15 _ => 0 - (intOf v15).toNat)
          case atStart => exact ⟨0, rfl, Nat.zero_le _, Below.refl _ _⟩
          case round =>
            obtain ⟨j, rfl, hj, hb⟩ := hrel
            have HBq := Aside0.mk hb
            clear hb
            obtain rfl : j = 0 := by omega
            go_wp2_with fail
            refine (pianolalaw01_lives.calls true _ rfl).mono ?_
            rintro r wl ⟨rfl, hb⟩
            have hbl := below_step HBq.out hb
            have HBl := Aside0.mk (below_step HBz.out hbl)
            have hIl := HIz.out.below hbl
            have i2 : wl.cell? ⟨w.heap.size, 0, none⟩ = some (.slice Aj b'.length cj) := blk_cell hIl.blk 0
            have i3 : wl.cell? ⟨w.heap.size, 1, none⟩ = some (.bool true) := blk_cell hIl.blk 1
            have u0 := Kd.C_string (P := Try.prog) (c := c2) Try.underlying40 Try.underlying5 Try.underlying9 (Kd.C_below HOz.out hbl)
            have u1 := Kd.C_string (P := Try.prog) (c := c0) Try.underlying40 Try.underlying5 Try.underlying9 (Kd.C_below HR.out HBl.out)
            clear hb hbl hIl
            go_wp2_with fail
            go_ret
            exact ⟨rfl, HBl.out⟩

end Go.Proofs.Ytdlkkjfbbeffbaa.P
