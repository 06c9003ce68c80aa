/- Ytdlkkjfbbeffbaa: what Go functions come to, and that they do: walks, printed by a program of this session or typed by hand; no statement of the seat stands here. -/
import Derived.Test.YtdlkkjfbbeffbaaP0
import Derived.Test.YtdlkkjfbbeffbaaPF16
import Derived.Test.YtdlkkjfbbeffbaaCodecNone
import Derived.Test.YtdlkkjfbbeffbaaCodecPl2
import Derived.Test.YtdlkkjfbbeffbaaCodecS
import Derived.Test.YtdlkkjfbbeffbaaPF16
namespace Go.Proofs.Ytdlkkjfbbeffbaa.P
open Go.RowKit Go.Proofs.YtdlkkjfbbeffbaaW.PrintWords Go.Proofs.YtdlkkjfbbeffbaaW.PrintLast Go.Proofs.YtdlkkjfbbeffbaaW.PrintMore
attribute [local go_sem] max2_int min2_int max_two min_two max_three min_three max_four min_four   -- for this text's walks alone
set_option linter.unusedVariables false
set_option linter.unusedSimpArgs false


/-! ### pianolalaw01_CodecInts: function 4 -/
-- IMPORT Derived.Test.YtdlkkjfbbeffbaaCodecNone
-- IMPORT Derived.Test.YtdlkkjfbbeffbaaCodecS
-- IMPORT Derived.Test.YtdlkkjfbbeffbaaCodecPl2
-- IMPORT Derived.Test.YtdlkkjfbbeffbaaPF16
def pianolalaw01_CodecInts.f (a0 : Int) : Option Bool := if -9223372036854775808 ≤ a0 ∧ a0 < 9223372036854775808 then some true else none
set_option maxRecDepth 100000 in
set_option maxHeartbeats 1000000 in
theorem pianolalaw01_CodecInts.calls (x0 : Int) (r : Bool) (w : World) (h : pianolalaw01_CodecInts.f x0 = some r) :
    Calls Try.prog 4 #[.int .i64 x0] w fun e w' => e = .returned (.bool r) ∧ Below w.heap.size w w' := by
  have hi : i64 x0 := by
    unfold pianolalaw01_CodecInts.f at h
    split at h
    · assumption
    · cases h
  obtain rfl : r = true := by
    unfold pianolalaw01_CodecInts.f at h
    rw [if_pos (show -9223372036854775808 ≤ x0 ∧ x0 < 9223372036854775808 from hi)] at h
    exact (Option.some.inj h).symm
  have HI := Aside0.mk hi
  clear h hi
  go_enter Try.func4, Try.ntmps4
  go_wp2_with fail
  refine (pianolalaw01_lives.calls true _ rfl).mono ?_
  rintro r w0 ⟨rfl, hb0⟩
  have HB0 := Aside0.mk hb0
  clear hb0
  go_wp2_with fail
  go_loopw [3] (fun v3 wr => ∃ k : Nat, v3 = .int .i64 k ∧ k ≤ 3 ∧ Below w.heap.size w wr) (fun v3 _ => 3 - (intOf v3).toNat)
  case atStart => exact ⟨0, rfl, by decide, HB0.out⟩
  case round =>
    obtain ⟨k, rfl, hk, hb⟩ := hrel
    have HB := Aside0.mk hb
    clear hb
    have hk4 : k = 0 ∨ k = 1 ∨ k = 2 ∨ k = 3 := by omega
    rcases hk4 with rfl | rfl | rfl | rfl
    · go_wp2_with fail
      refine (int_run _).mono ?_
      rintro r w1 ⟨i1, i2, rfl, hf, hb⟩
      have hO := ROK.below (w := wr.alloc (.cells #[.slice none 0 0, .bool false, .bool false] 52)) (B := wr.heap.size) (p := wr.heap.size) (v := .slice none 0 0) (bs := []) (e := 0) ⟨Nat.le_refl _, blk_new wr _, Kd.R_nil _ _ _ _ _, .inl rfl⟩ hb
      have hO1 := hO.below (below_alloc (Below.refl w1.heap.size w1) (.cells (numV i1 i2) 37))
      have hg1 := blk_new w1 (.cells (numV i1 i2) 37)
      have hz1 : wr.heap.size < w1.heap.size := by have h := hb.size; simp only [World.size_alloc] at h; omega
      have HB1 := Aside0.mk (show Below w.heap.size w (w1.alloc (.cells (numV i1 i2) 37)) from below_alloc (below_step HB.out ((below_alloc (Below.refl _ _) _).trans (hb.mono (by simp only [World.size_alloc]; omega)))) _)
      have HO1 := Aside0.mk hO1
      have HF1 := Aside0.mk (hf.alloc (.cells (numV i1 i2) 37))
      have HG1 := Aside0.mk hg1
      have hs1 : wr.heap.size ≤ (w1.alloc (.cells (numV i1 i2) 37)).heap.size := by simp only [World.size_alloc]; omega
      clear hO hO1 hf hb hg1
      simp only [numV]
      go_wp2_with fail
      refine (rbyte_run wr.heap.size wr.heap.size _ [] 0 x0 (w1.alloc (.cells (numV i1 i2) 37)) HO1.out hs1 (by simp)).mono ?_
      rintro r w2 ⟨rfl, ⟨v2, hO2⟩, hb2, hk2⟩
      have hg2 := hk2.blk HG1.out (by omega) (by simp)
      have HO2 := Aside0.mk hO2
      have HB2 := Aside0.mk (show Below w.heap.size w w2 from HB1.out.trans (hb2.mono (by have h := HB.out.size; omega)))
      have HF2 := Aside0.mk (show NumF w2 i1 i2 8 0 from ⟨hk2.blk HF1.out.s (blk_ne HF1.out.s HO1.out.blk (by decide)) (by simp), hk2.blk HF1.out.m (blk_ne HF1.out.m HO1.out.blk (by decide)) (by simp), HF1.out.hn⟩)
      have HG2 := Aside0.mk hg2
      clear hO2 hb2 hk2 hg2
      go_wp2_with fail
      refine (byte_run w2).mono ?_
      rintro r w3 ⟨f1, f2, rfl, hf3, hb3⟩
      have hg3 := blk_below HG2.out hb3
      have q0 : w3.cell? ⟨w1.heap.size, 0, none⟩ = some (.func (.func 86) #[] #[.pointer (some ⟨i1, 0, none⟩), .pointer (some ⟨i2, 0, none⟩)]) := blk_cell hg3 0
      have q1 : w3.cell? ⟨w1.heap.size, 1, none⟩ = some (.func (.func 88) #[] #[.pointer (some ⟨i1, 0, none⟩), .pointer (some ⟨i2, 0, none⟩)]) := blk_cell hg3 1
      have p0 := blkO_free hg3 0
      have p1 := blkO_free hg3 1
      obtain ⟨W3, hW3⟩ : ∃ W3, W3 = (w3.setCell ⟨w1.heap.size, 0, none⟩ (.func (.func 86) #[] #[.pointer (some ⟨f1, 0, none⟩), .pointer (some ⟨f2, 0, none⟩)])).setCell ⟨w1.heap.size, 1, none⟩ (.func (.func 88) #[] #[.pointer (some ⟨f1, 0, none⟩), .pointer (some ⟨f2, 0, none⟩)]) := ⟨_, rfl⟩
      have hne : w1.heap.size ≠ wr.heap.size := by omega
      have hG3 : W3.heap[w1.heap.size]? = some (.cells (numV f1 f2) 37 (0, 0)) := by rw [hW3]; exact two_set hg3 _ _
      have hO3 : ROK W3 wr.heap.size wr.heap.size v2 (numS ([], 0) 1 255 x0).1 (numS ([], 0) 1 255 x0).2 := by
        have h := HO2.out.below hb3
        rw [hW3]
        exact ⟨h.le, two_far h.blk (by omega) _ _, Kd.R_set (Kd.R_set h.own hg3 (by intro q hq; simp [Kd.int, Kd.scalar] at hq; subst hq; decide) 0 _) (blk_set hg3 0 _) (by intro q hq; simp [Kd.int, Kd.scalar] at hq; subst hq; decide) 1 _, h.es⟩
      have hF3 : NumF W3 f1 f2 1 255 := by
        rw [hW3]
        exact (hf3.set (blk_ne hf3.s hg3 (by decide)) (blk_ne hf3.m hg3 (by decide)) _ _).set (blk_ne hf3.s hg3 (by decide)) (blk_ne hf3.m hg3 (by decide)) _ _
      have hB3 : Below w.heap.size w W3 := by
        rw [hW3]
        exact ((below_step HB2.out hb3).setCell (p := ⟨w1.heap.size, 0, none⟩) (by have h := HB.out.size; show w.heap.size ≤ w1.heap.size; omega) _).setCell (p := ⟨w1.heap.size, 1, none⟩) (by have h := HB.out.size; show w.heap.size ≤ w1.heap.size; omega) _
      have HO3 := Aside0.mk hO3
      have HF3 := Aside0.mk hF3
      have HB3 := Aside0.mk hB3
      have HG3 := Aside0.mk hG3
      have HW3 := Aside0.mk hW3
      clear hg3 hf3 hb3 hW3 hG3 hO3 hF3 hB3 HG2 HF2
      simp only [numV]
      go_wp2_with fail
      rw [← HW3.out]
      have h1 := enc_I W3 f1 f2 1 255 x0 HF3.out
      rw [encR_num 1 255 x0 (by decide)] at h1
      have hne : w1.heap.size ≠ wr.heap.size := by omega
      by_cases hok : okN 1 255 x0
      · rw [if_pos hok] at h1
        refine h1.mono ?_
        rintro r w4 ⟨A4, c4, rfl, hC4, hl4, hb4⟩
        have hs : numS ([], 0) 1 255 x0 = (leB x0 1, 0) := by have h := num_pair 1 255 x0 (by decide); rw [if_pos hok] at h; exact h
        have hO4 := HO3.out.below hb4
        rw [hs] at hO4
        obtain ⟨A2, c2, hv2⟩ := Kd.R_slice hO4.own
        subst hv2
        have hg4 := blk_below HG3.out hb4
        have d0 : w4.cell? ⟨wr.heap.size, 0, none⟩ = some (.slice A2 (leB x0 1).length c2) := blk_cell hO4.blk 0
        have t0 : w4.cell? ⟨w1.heap.size, 0, none⟩ = some (.func (.func 86) #[] #[.pointer (some ⟨f1, 0, none⟩), .pointer (some ⟨f2, 0, none⟩)]) := blk_cell hg4 0
        have t1 : w4.cell? ⟨w1.heap.size, 1, none⟩ = some (.func (.func 88) #[] #[.pointer (some ⟨f1, 0, none⟩), .pointer (some ⟨f2, 0, none⟩)]) := blk_cell hg4 1
        have hcv : ∀ nq, (convert 40 9 (.slice A4 (leB x0 1).length c4)).run Try.prog (w4.drewN nq) = .ok (.string (strOfNums (leB x0 1))) (w4.drewN nq) := fun nq => Kd.C_string Try.underlying40 Try.underlying5 Try.underlying9 (Kd.C_drewN hC4 nq)
        have hcv2 : ∀ nq, (convert 40 9 (.slice A2 (leB x0 1).length c2)).run Try.prog (w4.drewN nq) = .ok (.string (strOfNums (leB x0 1))) (w4.drewN nq) := fun nq => Kd.C_string Try.underlying40 Try.underlying5 Try.underlying9 (Kd.C_drewN (Kd.R_reads' hO4.own).2.2 nq)
        have HO4 := Aside0.mk hO4
        have HC4 := Aside0.mk hC4
        have HL4 := Aside0.mk hl4
        have HF4 := Aside0.mk (HF3.out.below hb4)
        have HB4 := Aside0.mk (below_step HB3.out hb4)
        clear h1 hC4 hl4 hb4 hs hO4 hg4
        dsimp only
        go_upto_region 17 with (fail)
        go_quiet ((go_at_call 25; exact Calls.quiet_of_same (why_run _ _ _ _ _ _ (ROK.drewN HO4.out _))))
        obtain ⟨w5, hw5⟩ : ∃ w5, w5 = w4.drewN nq := ⟨_, rfl⟩
        have HF5 := Aside0.mk (show NumF w5 f1 f2 1 255 by rw [hw5]; exact ⟨HF4.out.s, HF4.out.m, HF4.out.hn⟩)
        have HC5 := Aside0.mk (show Kd.C (Kd.int .u8) w5 A4 (leB x0 1).length (leB x0 1) by rw [hw5]; exact Kd.C_drewN HC4.out nq)
        have HB5 := Aside0.mk (show Below w.heap.size w w5 by rw [hw5]; exact below_dN HB4.out nq)
        have t2 : w5.cell? ⟨w1.heap.size, 0, none⟩ = some (.func (.func 86) #[] #[.pointer (some ⟨f1, 0, none⟩), .pointer (some ⟨f2, 0, none⟩)]) := by rw [hw5]; exact t0
        have t3 : w5.cell? ⟨w1.heap.size, 1, none⟩ = some (.func (.func 88) #[] #[.pointer (some ⟨f1, 0, none⟩), .pointer (some ⟨f2, 0, none⟩)]) := by rw [hw5]; exact t1
        rw [← hw5]
        clear d0 t0 t1 hcv hcv2 hw5 HO4 HC4 HF4 HB4
        go_wp2_with fail
        have h2 := dec_I w5 f1 f2 1 255 HF5.out A4 c4 (leB x0 1) HC5.out HL4.out ⟨leB_ok x0 1, by rw [leB_length]; decide⟩
        rw [decR_num 1 255 x0 (by unfold Sz; decide) (by decide) HI.out hok] at h2
        refine h2.mono ?_
        rintro r w6 ⟨v, rfl, rfl, hb6⟩
        have HB6 := Aside0.mk (below_step HB5.out hb6)
        clear h2 hb6 t2 t3 HF5 HC5 HB5 HL4
        dsimp only
        go_wp2_with fail
        go_roundw
        case rel => exact ⟨1, by go_num, by decide, HB6.out⟩
        case measure => simp [intOf]
      · rw [if_neg hok] at h1
        refine h1.mono ?_
        rintro r w4 ⟨A4, c4, rfl, hC4, hl4, hb4⟩
        have hs : numS ([], 0) 1 255 x0 = ([], 1) := by have h := num_pair 1 255 x0 (by decide); rw [if_neg hok] at h; exact h
        have hO4 := HO3.out.below hb4
        rw [hs] at hO4
        have HO4 := Aside0.mk hO4
        have HB4 := Aside0.mk (below_step HB3.out hb4)
        clear h1 hC4 hl4 hb4 hs hO4
        dsimp only [List.length_nil]
        go_upto_region 17 with (fail)
        go_quiet ((go_at_call 25; exact Calls.quiet_of_same (why_run _ _ _ _ _ _ (ROK.drewN HO4.out _))))
        have HB5 := Aside0.mk (show Below w.heap.size w (w4.drewN nq) from below_dN HB4.out nq)
        go_wp2_with fail
        go_roundw
        case rel => exact ⟨1, by go_num, by decide, HB5.out⟩
        case measure => simp [intOf]
    · go_wp2_with fail
      refine (int_run _).mono ?_
      rintro r w1 ⟨i1, i2, rfl, hf, hb⟩
      have hO := ROK.below (w := wr.alloc (.cells #[.slice none 0 0, .bool false, .bool false] 52)) (B := wr.heap.size) (p := wr.heap.size) (v := .slice none 0 0) (bs := []) (e := 0) ⟨Nat.le_refl _, blk_new wr _, Kd.R_nil _ _ _ _ _, .inl rfl⟩ hb
      have hO1 := hO.below (below_alloc (Below.refl w1.heap.size w1) (.cells (numV i1 i2) 37))
      have hg1 := blk_new w1 (.cells (numV i1 i2) 37)
      have hz1 : wr.heap.size < w1.heap.size := by have h := hb.size; simp only [World.size_alloc] at h; omega
      have HB1 := Aside0.mk (show Below w.heap.size w (w1.alloc (.cells (numV i1 i2) 37)) from below_alloc (below_step HB.out ((below_alloc (Below.refl _ _) _).trans (hb.mono (by simp only [World.size_alloc]; omega)))) _)
      have HO1 := Aside0.mk hO1
      have HF1 := Aside0.mk (hf.alloc (.cells (numV i1 i2) 37))
      have HG1 := Aside0.mk hg1
      have hs1 : wr.heap.size ≤ (w1.alloc (.cells (numV i1 i2) 37)).heap.size := by simp only [World.size_alloc]; omega
      clear hO hO1 hf hb hg1
      simp only [numV]
      go_wp2_with fail
      refine (rshort_run wr.heap.size wr.heap.size _ [] 0 x0 (w1.alloc (.cells (numV i1 i2) 37)) HO1.out hs1 (by simp)).mono ?_
      rintro r w2 ⟨rfl, ⟨v2, hO2⟩, hb2, hk2⟩
      have hg2 := hk2.blk HG1.out (by omega) (by simp)
      have HO2 := Aside0.mk hO2
      have HB2 := Aside0.mk (show Below w.heap.size w w2 from HB1.out.trans (hb2.mono (by have h := HB.out.size; omega)))
      have HF2 := Aside0.mk (show NumF w2 i1 i2 8 0 from ⟨hk2.blk HF1.out.s (blk_ne HF1.out.s HO1.out.blk (by decide)) (by simp), hk2.blk HF1.out.m (blk_ne HF1.out.m HO1.out.blk (by decide)) (by simp), HF1.out.hn⟩)
      have HG2 := Aside0.mk hg2
      clear hO2 hb2 hk2 hg2
      go_wp2_with fail
      refine (short_run w2).mono ?_
      rintro r w3 ⟨f1, f2, rfl, hf3, hb3⟩
      have hg3 := blk_below HG2.out hb3
      have q0 : w3.cell? ⟨w1.heap.size, 0, none⟩ = some (.func (.func 86) #[] #[.pointer (some ⟨i1, 0, none⟩), .pointer (some ⟨i2, 0, none⟩)]) := blk_cell hg3 0
      have q1 : w3.cell? ⟨w1.heap.size, 1, none⟩ = some (.func (.func 88) #[] #[.pointer (some ⟨i1, 0, none⟩), .pointer (some ⟨i2, 0, none⟩)]) := blk_cell hg3 1
      have p0 := blkO_free hg3 0
      have p1 := blkO_free hg3 1
      obtain ⟨W3, hW3⟩ : ∃ W3, W3 = (w3.setCell ⟨w1.heap.size, 0, none⟩ (.func (.func 86) #[] #[.pointer (some ⟨f1, 0, none⟩), .pointer (some ⟨f2, 0, none⟩)])).setCell ⟨w1.heap.size, 1, none⟩ (.func (.func 88) #[] #[.pointer (some ⟨f1, 0, none⟩), .pointer (some ⟨f2, 0, none⟩)]) := ⟨_, rfl⟩
      have hne : w1.heap.size ≠ wr.heap.size := by omega
      have hG3 : W3.heap[w1.heap.size]? = some (.cells (numV f1 f2) 37 (0, 0)) := by rw [hW3]; exact two_set hg3 _ _
      have hO3 : ROK W3 wr.heap.size wr.heap.size v2 (numS ([], 0) 2 65535 x0).1 (numS ([], 0) 2 65535 x0).2 := by
        have h := HO2.out.below hb3
        rw [hW3]
        exact ⟨h.le, two_far h.blk (by omega) _ _, Kd.R_set (Kd.R_set h.own hg3 (by intro q hq; simp [Kd.int, Kd.scalar] at hq; subst hq; decide) 0 _) (blk_set hg3 0 _) (by intro q hq; simp [Kd.int, Kd.scalar] at hq; subst hq; decide) 1 _, h.es⟩
      have hF3 : NumF W3 f1 f2 2 65535 := by
        rw [hW3]
        exact (hf3.set (blk_ne hf3.s hg3 (by decide)) (blk_ne hf3.m hg3 (by decide)) _ _).set (blk_ne hf3.s hg3 (by decide)) (blk_ne hf3.m hg3 (by decide)) _ _
      have hB3 : Below w.heap.size w W3 := by
        rw [hW3]
        exact ((below_step HB2.out hb3).setCell (p := ⟨w1.heap.size, 0, none⟩) (by have h := HB.out.size; show w.heap.size ≤ w1.heap.size; omega) _).setCell (p := ⟨w1.heap.size, 1, none⟩) (by have h := HB.out.size; show w.heap.size ≤ w1.heap.size; omega) _
      have HO3 := Aside0.mk hO3
      have HF3 := Aside0.mk hF3
      have HB3 := Aside0.mk hB3
      have HG3 := Aside0.mk hG3
      have HW3 := Aside0.mk hW3
      clear hg3 hf3 hb3 hW3 hG3 hO3 hF3 hB3 HG2 HF2
      simp only [numV]
      go_wp2_with fail
      rw [← HW3.out]
      have h1 := enc_I W3 f1 f2 2 65535 x0 HF3.out
      rw [encR_num 2 65535 x0 (by decide)] at h1
      have hne : w1.heap.size ≠ wr.heap.size := by omega
      by_cases hok : okN 2 65535 x0
      · rw [if_pos hok] at h1
        refine h1.mono ?_
        rintro r w4 ⟨A4, c4, rfl, hC4, hl4, hb4⟩
        have hs : numS ([], 0) 2 65535 x0 = (leB x0 2, 0) := by have h := num_pair 2 65535 x0 (by decide); rw [if_pos hok] at h; exact h
        have hO4 := HO3.out.below hb4
        rw [hs] at hO4
        obtain ⟨A2, c2, hv2⟩ := Kd.R_slice hO4.own
        subst hv2
        have hg4 := blk_below HG3.out hb4
        have d0 : w4.cell? ⟨wr.heap.size, 0, none⟩ = some (.slice A2 (leB x0 2).length c2) := blk_cell hO4.blk 0
        have t0 : w4.cell? ⟨w1.heap.size, 0, none⟩ = some (.func (.func 86) #[] #[.pointer (some ⟨f1, 0, none⟩), .pointer (some ⟨f2, 0, none⟩)]) := blk_cell hg4 0
        have t1 : w4.cell? ⟨w1.heap.size, 1, none⟩ = some (.func (.func 88) #[] #[.pointer (some ⟨f1, 0, none⟩), .pointer (some ⟨f2, 0, none⟩)]) := blk_cell hg4 1
        have hcv : ∀ nq, (convert 40 9 (.slice A4 (leB x0 2).length c4)).run Try.prog (w4.drewN nq) = .ok (.string (strOfNums (leB x0 2))) (w4.drewN nq) := fun nq => Kd.C_string Try.underlying40 Try.underlying5 Try.underlying9 (Kd.C_drewN hC4 nq)
        have hcv2 : ∀ nq, (convert 40 9 (.slice A2 (leB x0 2).length c2)).run Try.prog (w4.drewN nq) = .ok (.string (strOfNums (leB x0 2))) (w4.drewN nq) := fun nq => Kd.C_string Try.underlying40 Try.underlying5 Try.underlying9 (Kd.C_drewN (Kd.R_reads' hO4.own).2.2 nq)
        have HO4 := Aside0.mk hO4
        have HC4 := Aside0.mk hC4
        have HL4 := Aside0.mk hl4
        have HF4 := Aside0.mk (HF3.out.below hb4)
        have HB4 := Aside0.mk (below_step HB3.out hb4)
        clear h1 hC4 hl4 hb4 hs hO4 hg4
        dsimp only
        go_upto_region 17 with (fail)
        go_quiet ((go_at_call 25; exact Calls.quiet_of_same (why_run _ _ _ _ _ _ (ROK.drewN HO4.out _))))
        obtain ⟨w5, hw5⟩ : ∃ w5, w5 = w4.drewN nq := ⟨_, rfl⟩
        have HF5 := Aside0.mk (show NumF w5 f1 f2 2 65535 by rw [hw5]; exact ⟨HF4.out.s, HF4.out.m, HF4.out.hn⟩)
        have HC5 := Aside0.mk (show Kd.C (Kd.int .u8) w5 A4 (leB x0 2).length (leB x0 2) by rw [hw5]; exact Kd.C_drewN HC4.out nq)
        have HB5 := Aside0.mk (show Below w.heap.size w w5 by rw [hw5]; exact below_dN HB4.out nq)
        have t2 : w5.cell? ⟨w1.heap.size, 0, none⟩ = some (.func (.func 86) #[] #[.pointer (some ⟨f1, 0, none⟩), .pointer (some ⟨f2, 0, none⟩)]) := by rw [hw5]; exact t0
        have t3 : w5.cell? ⟨w1.heap.size, 1, none⟩ = some (.func (.func 88) #[] #[.pointer (some ⟨f1, 0, none⟩), .pointer (some ⟨f2, 0, none⟩)]) := by rw [hw5]; exact t1
        rw [← hw5]
        clear d0 t0 t1 hcv hcv2 hw5 HO4 HC4 HF4 HB4
        go_wp2_with fail
        have h2 := dec_I w5 f1 f2 2 65535 HF5.out A4 c4 (leB x0 2) HC5.out HL4.out ⟨leB_ok x0 2, by rw [leB_length]; decide⟩
        rw [decR_num 2 65535 x0 (by unfold Sz; decide) (by decide) HI.out hok] at h2
        refine h2.mono ?_
        rintro r w6 ⟨v, rfl, rfl, hb6⟩
        have HB6 := Aside0.mk (below_step HB5.out hb6)
        clear h2 hb6 t2 t3 HF5 HC5 HB5 HL4
        dsimp only
        go_wp2_with fail
        go_roundw
        case rel => exact ⟨2, by go_num, by decide, HB6.out⟩
        case measure => simp [intOf]
      · rw [if_neg hok] at h1
        refine h1.mono ?_
        rintro r w4 ⟨A4, c4, rfl, hC4, hl4, hb4⟩
        have hs : numS ([], 0) 2 65535 x0 = ([], 1) := by have h := num_pair 2 65535 x0 (by decide); rw [if_neg hok] at h; exact h
        have hO4 := HO3.out.below hb4
        rw [hs] at hO4
        have HO4 := Aside0.mk hO4
        have HB4 := Aside0.mk (below_step HB3.out hb4)
        clear h1 hC4 hl4 hb4 hs hO4
        dsimp only [List.length_nil]
        go_upto_region 17 with (fail)
        go_quiet ((go_at_call 25; exact Calls.quiet_of_same (why_run _ _ _ _ _ _ (ROK.drewN HO4.out _))))
        have HB5 := Aside0.mk (show Below w.heap.size w (w4.drewN nq) from below_dN HB4.out nq)
        go_wp2_with fail
        go_roundw
        case rel => exact ⟨2, by go_num, by decide, HB5.out⟩
        case measure => simp [intOf]
    · go_wp2_with fail
      refine (int_run _).mono ?_
      rintro r w1 ⟨i1, i2, rfl, hf, hb⟩
      have hO := ROK.below (w := wr.alloc (.cells #[.slice none 0 0, .bool false, .bool false] 52)) (B := wr.heap.size) (p := wr.heap.size) (v := .slice none 0 0) (bs := []) (e := 0) ⟨Nat.le_refl _, blk_new wr _, Kd.R_nil _ _ _ _ _, .inl rfl⟩ hb
      have hO1 := hO.below (below_alloc (Below.refl w1.heap.size w1) (.cells (numV i1 i2) 37))
      have hg1 := blk_new w1 (.cells (numV i1 i2) 37)
      have hz1 : wr.heap.size < w1.heap.size := by have h := hb.size; simp only [World.size_alloc] at h; omega
      have HB1 := Aside0.mk (show Below w.heap.size w (w1.alloc (.cells (numV i1 i2) 37)) from below_alloc (below_step HB.out ((below_alloc (Below.refl _ _) _).trans (hb.mono (by simp only [World.size_alloc]; omega)))) _)
      have HO1 := Aside0.mk hO1
      have HF1 := Aside0.mk (hf.alloc (.cells (numV i1 i2) 37))
      have HG1 := Aside0.mk hg1
      have hs1 : wr.heap.size ≤ (w1.alloc (.cells (numV i1 i2) 37)).heap.size := by simp only [World.size_alloc]; omega
      clear hO hO1 hf hb hg1
      simp only [numV]
      go_wp2_with fail
      refine (rint_run wr.heap.size wr.heap.size _ [] 0 x0 (w1.alloc (.cells (numV i1 i2) 37)) HO1.out hs1 (by simp)).mono ?_
      rintro r w2 ⟨rfl, ⟨v2, hO2⟩, hb2, hk2⟩
      have hg2 := hk2.blk HG1.out (by omega) (by simp)
      have HO2 := Aside0.mk hO2
      have HB2 := Aside0.mk (show Below w.heap.size w w2 from HB1.out.trans (hb2.mono (by have h := HB.out.size; omega)))
      have HF2 := Aside0.mk (show NumF w2 i1 i2 8 0 from ⟨hk2.blk HF1.out.s (blk_ne HF1.out.s HO1.out.blk (by decide)) (by simp), hk2.blk HF1.out.m (blk_ne HF1.out.m HO1.out.blk (by decide)) (by simp), HF1.out.hn⟩)
      have HG2 := Aside0.mk hg2
      have q0 : w2.cell? ⟨w1.heap.size, 0, none⟩ = some (.func (.func 86) #[] #[.pointer (some ⟨i1, 0, none⟩), .pointer (some ⟨i2, 0, none⟩)]) := blk_cell hg2 0
      have q1 : w2.cell? ⟨w1.heap.size, 1, none⟩ = some (.func (.func 88) #[] #[.pointer (some ⟨i1, 0, none⟩), .pointer (some ⟨i2, 0, none⟩)]) := blk_cell hg2 1
      clear hO2 hb2 hk2 hg2
      have HO3 := HO2
      have HF3 := HF2
      have HB3 := HB2
      have HG3 := HG2
      obtain ⟨f1, hf1⟩ : ∃ f1, f1 = i1 := ⟨_, rfl⟩
      obtain ⟨f2, hf2⟩ : ∃ f2, f2 = i2 := ⟨_, rfl⟩
      rw [← hf1, ← hf2] at HF3 HG3
      rw [← hf1, ← hf2] at q0 q1
      obtain ⟨W3, hW3⟩ : ∃ W3, W3 = w2 := ⟨_, rfl⟩
      rw [← hW3] at HO3 HF3 HB3 HG3
      have HW3 := Aside0.mk hW3
      clear hf1 hf2 hW3
      go_wp2_with fail
      rw [← HW3.out]
      have h1 := enc_I W3 f1 f2 8 0 x0 HF3.out
      rw [encR_num 8 0 x0 (by decide)] at h1
      have hne : w1.heap.size ≠ wr.heap.size := by omega
      by_cases hok : okN 8 0 x0
      · rw [if_pos hok] at h1
        refine h1.mono ?_
        rintro r w4 ⟨A4, c4, rfl, hC4, hl4, hb4⟩
        have hs : numS ([], 0) 8 0 x0 = (leB x0 8, 0) := by have h := num_pair 8 0 x0 (by decide); rw [if_pos hok] at h; exact h
        have hO4 := HO3.out.below hb4
        rw [hs] at hO4
        obtain ⟨A2, c2, hv2⟩ := Kd.R_slice hO4.own
        subst hv2
        have hg4 := blk_below HG3.out hb4
        have d0 : w4.cell? ⟨wr.heap.size, 0, none⟩ = some (.slice A2 (leB x0 8).length c2) := blk_cell hO4.blk 0
        have t0 : w4.cell? ⟨w1.heap.size, 0, none⟩ = some (.func (.func 86) #[] #[.pointer (some ⟨f1, 0, none⟩), .pointer (some ⟨f2, 0, none⟩)]) := blk_cell hg4 0
        have t1 : w4.cell? ⟨w1.heap.size, 1, none⟩ = some (.func (.func 88) #[] #[.pointer (some ⟨f1, 0, none⟩), .pointer (some ⟨f2, 0, none⟩)]) := blk_cell hg4 1
        have hcv : ∀ nq, (convert 40 9 (.slice A4 (leB x0 8).length c4)).run Try.prog (w4.drewN nq) = .ok (.string (strOfNums (leB x0 8))) (w4.drewN nq) := fun nq => Kd.C_string Try.underlying40 Try.underlying5 Try.underlying9 (Kd.C_drewN hC4 nq)
        have hcv2 : ∀ nq, (convert 40 9 (.slice A2 (leB x0 8).length c2)).run Try.prog (w4.drewN nq) = .ok (.string (strOfNums (leB x0 8))) (w4.drewN nq) := fun nq => Kd.C_string Try.underlying40 Try.underlying5 Try.underlying9 (Kd.C_drewN (Kd.R_reads' hO4.own).2.2 nq)
        have HO4 := Aside0.mk hO4
        have HC4 := Aside0.mk hC4
        have HL4 := Aside0.mk hl4
        have HF4 := Aside0.mk (HF3.out.below hb4)
        have HB4 := Aside0.mk (below_step HB3.out hb4)
        clear h1 hC4 hl4 hb4 hs hO4 hg4
        dsimp only
        go_upto_region 17 with (fail)
        go_quiet ((go_at_call 25; exact Calls.quiet_of_same (why_run _ _ _ _ _ _ (ROK.drewN HO4.out _))))
        obtain ⟨w5, hw5⟩ : ∃ w5, w5 = w4.drewN nq := ⟨_, rfl⟩
        have HF5 := Aside0.mk (show NumF w5 f1 f2 8 0 by rw [hw5]; exact ⟨HF4.out.s, HF4.out.m, HF4.out.hn⟩)
        have HC5 := Aside0.mk (show Kd.C (Kd.int .u8) w5 A4 (leB x0 8).length (leB x0 8) by rw [hw5]; exact Kd.C_drewN HC4.out nq)
        have HB5 := Aside0.mk (show Below w.heap.size w w5 by rw [hw5]; exact below_dN HB4.out nq)
        have t2 : w5.cell? ⟨w1.heap.size, 0, none⟩ = some (.func (.func 86) #[] #[.pointer (some ⟨f1, 0, none⟩), .pointer (some ⟨f2, 0, none⟩)]) := by rw [hw5]; exact t0
        have t3 : w5.cell? ⟨w1.heap.size, 1, none⟩ = some (.func (.func 88) #[] #[.pointer (some ⟨f1, 0, none⟩), .pointer (some ⟨f2, 0, none⟩)]) := by rw [hw5]; exact t1
        rw [← hw5]
        clear d0 t0 t1 hcv hcv2 hw5 HO4 HC4 HF4 HB4
        go_wp2_with fail
        have h2 := dec_I w5 f1 f2 8 0 HF5.out A4 c4 (leB x0 8) HC5.out HL4.out ⟨leB_ok x0 8, by rw [leB_length]; decide⟩
        rw [decR_num 8 0 x0 (by unfold Sz; decide) (by decide) HI.out hok] at h2
        refine h2.mono ?_
        rintro r w6 ⟨v, rfl, rfl, hb6⟩
        have HB6 := Aside0.mk (below_step HB5.out hb6)
        clear h2 hb6 t2 t3 HF5 HC5 HB5 HL4
        dsimp only
        go_wp2_with fail
        go_roundw
        case rel => exact ⟨3, by go_num, by decide, HB6.out⟩
        case measure => simp [intOf]
      · rw [if_neg hok] at h1
        refine h1.mono ?_
        rintro r w4 ⟨A4, c4, rfl, hC4, hl4, hb4⟩
        have hs : numS ([], 0) 8 0 x0 = ([], 1) := by have h := num_pair 8 0 x0 (by decide); rw [if_neg hok] at h; exact h
        have hO4 := HO3.out.below hb4
        rw [hs] at hO4
        have HO4 := Aside0.mk hO4
        have HB4 := Aside0.mk (below_step HB3.out hb4)
        clear h1 hC4 hl4 hb4 hs hO4
        dsimp only [List.length_nil]
        go_upto_region 17 with (fail)
        go_quiet ((go_at_call 25; exact Calls.quiet_of_same (why_run _ _ _ _ _ _ (ROK.drewN HO4.out _))))
        have HB5 := Aside0.mk (show Below w.heap.size w (w4.drewN nq) from below_dN HB4.out nq)
        go_wp2_with fail
        go_roundw
        case rel => exact ⟨3, by go_num, by decide, HB5.out⟩
        case measure => simp [intOf]
    · go_wp2_with fail
      go_ret
      exact ⟨rfl, HB.out⟩

end Go.Proofs.Ytdlkkjfbbeffbaa.P
