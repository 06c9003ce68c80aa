/- Ytdlkkjfbbeffbaa: what Go functions come to, and that they do: walks, printed by a program of this session or typed by hand; no statement of the seat stands here. -/
import Derived.Test.YtdlkkjfbbeffbaaP0
import Derived.Test.YtdlkkjfbbeffbaaPF16
import Derived.Test.YtdlkkjfbbeffbaaCodecNone
import Derived.Test.YtdlkkjfbbeffbaaCodecPl3
import Derived.Test.YtdlkkjfbbeffbaaCodecS
import Derived.Test.YtdlkkjfbbeffbaaPF16
namespace Go.Proofs.Ytdlkkjfbbeffbaa.P
open Go.RowKit Go.Proofs.YtdlkkjfbbeffbaaW.PrintWords Go.Proofs.YtdlkkjfbbeffbaaW.PrintLast Go.Proofs.YtdlkkjfbbeffbaaW.PrintMore
attribute [local go_sem] max2_int min2_int max_two min_two max_three min_three max_four min_four   -- for this text's walks alone
set_option linter.unusedVariables false
set_option linter.unusedSimpArgs false


/-! ### pianolalaw01_CodecReads: function 5 -/
-- IMPORT Derived.Test.YtdlkkjfbbeffbaaCodecNone
-- IMPORT Derived.Test.YtdlkkjfbbeffbaaCodecS
-- IMPORT Derived.Test.YtdlkkjfbbeffbaaCodecPl3
-- IMPORT Derived.Test.YtdlkkjfbbeffbaaPF16
def pianolalaw01_CodecReads.f (l0 : List Int) : Option Bool := if okBytes l0 = true then some true else none
set_option maxRecDepth 100000 in
set_option maxHeartbeats 8000000 in
theorem pianolalaw01_CodecReads.calls (A0 : Option Addr) (c0 : Nat) (l0 : List Int) (r : Bool) (w : World) (hr0 : Kd.C (Kd.int .u8) w A0 l0.length l0) (hc0 : l0.length ≤ c0) (h : pianolalaw01_CodecReads.f l0 = some r) :
    Calls Try.prog 5 #[.slice A0 l0.length c0] w fun e w' => e = .returned (.bool r) ∧ Below w.heap.size w w' := by
  have hok : okBytes l0 = true := by
    unfold pianolalaw01_CodecReads.f at h
    split at h
    · assumption
    · cases h
  obtain rfl : r = true := by
    unfold pianolalaw01_CodecReads.f at h
    rw [if_pos hok] at h
    exact (Option.some.inj h).symm
  have HOK := Aside0.mk (okBytes_is hok)
  have HR := Aside0.mk hr0
  have hmx := Kd.C_max hr0
  clear h hok hr0
  go_enter Try.func5, Try.ntmps5
  go_wp2_with fail
  refine (pianolalaw01_lives.calls true _ rfl).mono ?_
  rintro r w0 ⟨rfl, hb0⟩
  have HB0 := Aside0.mk hb0
  clear hb0
  go_wp2_with fail
  go_loopw [3] (fun v3 wr => ∃ k : Nat, v3 = .int .i64 k ∧ k ≤ 4 ∧ Below w.heap.size w wr) (fun v3 _ => 4 - (intOf v3).toNat)
  case atStart => exact ⟨0, rfl, by decide, HB0.out⟩
  case round =>
    obtain ⟨k, rfl, hk, hb⟩ := hrel
    have HB := Aside0.mk hb
    clear hb
    have hk5 : k = 0 ∨ k = 1 ∨ k = 2 ∨ k = 3 ∨ k = 4 := by omega
    rcases hk5 with rfl | rfl | rfl | rfl | rfl
    · have h3 := readsI l0 1 255 (by decide)
      rcases h3 with ⟨bs, hl, hf, hd⟩ | ⟨x, hl, hf, hd⟩ | ⟨x, bs, hl, hf, hd, hpos, hle⟩
      · as_aux_lemma =>
          have HRD := Aside0.mk hl
          have HFS := Aside0.mk hf
          have HDC := Aside0.mk hd
          clear hl hf hd
          have hr := rinbyte_run wr (wr.alloc (.cells #[.slice A0 l0.length c0, .bool false] 61)) wr.heap.size A0 c0 l0 false ⟨Nat.le_refl _, blk_new wr _, Kd.C_below HR.out HB.out, hc0, HOK.out, below_alloc (Below.refl _ _) _⟩
          rw [show lowI (l0, false) 1 255 = _ from HRD.out] at hr
          have HC0 := Aside0.mk hr
          clear hr
          go_wp2_with fail
          with_reducible refine HC0.out.mono ?_
          rintro r w1 ⟨rfl, ⟨A2, c2, hI⟩, _⟩
          have HBK := Aside0.mk hI.blk
          have HB1 := Aside0.mk (below_step HB.out hI.lo)
          clear hI
          dsimp only
          go_wp2_with fail
          refine (byte_run w1).mono ?_
          rintro r w2 ⟨f1, f2, rfl, hf, hb⟩
          have HF := Aside0.mk hf
          have HB2 := Aside0.mk (below_step HB1.out hb)
          have HK2 := Aside0.mk (blk_below HBK.out hb)
          clear hf hb HBK HB1
          simp only [numV]
          go_wp2_with fail
          have h1 := dec_I w2 f1 f2 1 255 HF.out A0 c0 l0 (Kd.C_below HR.out HB2.out) hc0 HOK.out
          rw [HDC.out] at h1
          refine h1.mono ?_
          rintro r w3 ⟨v, rfl, rfl, hb⟩
          have HB3 := Aside0.mk (below_step HB2.out hb)
          have HK3 := Aside0.mk (blk_below HK2.out hb)
          clear h1 hb HF HB2 HK2
          dsimp only
          go_wp2_with fail
          refine (byte_run w3).mono ?_
          rintro r w4 ⟨f1, f2, rfl, hf, hb⟩
          have HF := Aside0.mk hf
          have HB4 := Aside0.mk (below_step HB3.out hb)
          have HK4 := Aside0.mk (blk_below HK3.out hb)
          clear hf hb HB3 HK3
          simp only [numV]
          go_wp2_with fail
          have h1 := fst_I w4 f1 f2 1 255 HF.out A0 c0 l0 (Kd.C_below HR.out HB4.out) hc0 HOK.out
          rw [HFS.out] at h1
          refine h1.mono ?_
          rintro r w5 ⟨v, rfl, rfl, hb⟩
          have HB5 := Aside0.mk (below_step HB4.out hb)
          have hk5 := blk_below HK4.out hb
          have d0 : w5.cell? ⟨wr.heap.size, 0, none⟩ = some (.slice A2 bs.length c2) := blk_cell hk5 0
          have d1 : w5.cell? ⟨wr.heap.size, 1, none⟩ = some (.bool true) := blk_cell hk5 1
          clear h1 hb hk5 HF HB4 HK4
          dsimp only [List.length_nil] at d0 ⊢
          go_wp2_with fail
          go_roundw
          case rel => exact ⟨1, by go_num, by decide, HB5.out⟩
          case measure => simp [intOf]
      · as_aux_lemma =>
          have HRD := Aside0.mk hl
          have HFS := Aside0.mk hf
          have HDC := Aside0.mk hd
          clear hl hf hd
          have hr := rinbyte_run wr (wr.alloc (.cells #[.slice A0 l0.length c0, .bool false] 61)) wr.heap.size A0 c0 l0 false ⟨Nat.le_refl _, blk_new wr _, Kd.C_below HR.out HB.out, hc0, HOK.out, below_alloc (Below.refl _ _) _⟩
          rw [show lowI (l0, false) 1 255 = _ from HRD.out] at hr
          have HC0 := Aside0.mk hr
          clear hr
          go_wp2_with fail
          with_reducible refine HC0.out.mono ?_
          rintro r w1 ⟨rfl, ⟨A2, c2, hI⟩, _⟩
          have HBK := Aside0.mk hI.blk
          have HB1 := Aside0.mk (below_step HB.out hI.lo)
          clear hI
          dsimp only
          go_wp2_with fail
          refine (byte_run w1).mono ?_
          rintro r w2 ⟨f1, f2, rfl, hf, hb⟩
          have HF := Aside0.mk hf
          have HB2 := Aside0.mk (below_step HB1.out hb)
          have HK2 := Aside0.mk (blk_below HBK.out hb)
          clear hf hb HBK HB1
          simp only [numV]
          go_wp2_with fail
          have h1 := dec_I w2 f1 f2 1 255 HF.out A0 c0 l0 (Kd.C_below HR.out HB2.out) hc0 HOK.out
          rw [HDC.out] at h1
          refine h1.mono ?_
          rintro r w3 ⟨v, rfl, rfl, hb⟩
          have HB3 := Aside0.mk (below_step HB2.out hb)
          have HK3 := Aside0.mk (blk_below HK2.out hb)
          clear h1 hb HF HB2 HK2
          dsimp only
          go_wp2_with fail
          refine (byte_run w3).mono ?_
          rintro r w4 ⟨f1, f2, rfl, hf, hb⟩
          have HF := Aside0.mk hf
          have HB4 := Aside0.mk (below_step HB3.out hb)
          have HK4 := Aside0.mk (blk_below HK3.out hb)
          clear hf hb HB3 HK3
          simp only [numV]
          go_wp2_with fail
          have h1 := fst_I w4 f1 f2 1 255 HF.out A0 c0 l0 (Kd.C_below HR.out HB4.out) hc0 HOK.out
          rw [HFS.out] at h1
          refine h1.mono ?_
          rintro r w5 ⟨v, rfl, rfl, hb⟩
          have HB5 := Aside0.mk (below_step HB4.out hb)
          have hk5 := blk_below HK4.out hb
          have d0 : w5.cell? ⟨wr.heap.size, 0, none⟩ = some (.slice A2 ([] : List Int).length c2) := blk_cell hk5 0
          have d1 : w5.cell? ⟨wr.heap.size, 1, none⟩ = some (.bool false) := blk_cell hk5 1
          clear h1 hb hk5 HF HB4 HK4
          dsimp only [List.length_nil] at d0 ⊢
          go_wp2_with fail
          go_roundw
          case rel => exact ⟨1, by go_num, by decide, HB5.out⟩
          case measure => simp [intOf]
      · as_aux_lemma =>
          have HRD := Aside0.mk hl
          have HFS := Aside0.mk hf
          have HDC := Aside0.mk hd
          clear hl hf hd
          have hne0 : ¬ bs = [] := by rintro rfl; simp at hpos
          have hb0 : ((bs.length : Int) == 0) = false := by rw [beq_eq_false_iff_ne]; omega
          have hr := rinbyte_run wr (wr.alloc (.cells #[.slice A0 l0.length c0, .bool false] 61)) wr.heap.size A0 c0 l0 false ⟨Nat.le_refl _, blk_new wr _, Kd.C_below HR.out HB.out, hc0, HOK.out, below_alloc (Below.refl _ _) _⟩
          rw [show lowI (l0, false) 1 255 = _ from HRD.out] at hr
          have HC0 := Aside0.mk hr
          clear hr
          go_wp2_with fail
          with_reducible refine HC0.out.mono ?_
          rintro r w1 ⟨rfl, ⟨A2, c2, hI⟩, _⟩
          have HBK := Aside0.mk hI.blk
          have HB1 := Aside0.mk (below_step HB.out hI.lo)
          clear hI
          dsimp only
          go_wp2_with fail
          refine (byte_run w1).mono ?_
          rintro r w2 ⟨f1, f2, rfl, hf, hb⟩
          have HF := Aside0.mk hf
          have HB2 := Aside0.mk (below_step HB1.out hb)
          have HK2 := Aside0.mk (blk_below HBK.out hb)
          clear hf hb HBK HB1
          simp only [numV]
          go_wp2_with fail
          have h1 := dec_I w2 f1 f2 1 255 HF.out A0 c0 l0 (Kd.C_below HR.out HB2.out) hc0 HOK.out
          rw [HDC.out] at h1
          refine h1.mono ?_
          rintro r w3 ⟨v, rfl, rfl, hb⟩
          have HB3 := Aside0.mk (below_step HB2.out hb)
          have HK3 := Aside0.mk (blk_below HK2.out hb)
          clear h1 hb HF HB2 HK2
          dsimp only
          go_wp2_with fail
          refine (byte_run w3).mono ?_
          rintro r w4 ⟨f1, f2, rfl, hf, hb⟩
          have HF := Aside0.mk hf
          have HB4 := Aside0.mk (below_step HB3.out hb)
          have HK4 := Aside0.mk (blk_below HK3.out hb)
          clear hf hb HB3 HK3
          simp only [numV]
          go_wp2_with fail
          have h1 := fst_I w4 f1 f2 1 255 HF.out A0 c0 l0 (Kd.C_below HR.out HB4.out) hc0 HOK.out
          rw [HFS.out] at h1
          refine h1.mono ?_
          rintro r w5 ⟨v, rfl, rfl, hb⟩
          have HB5 := Aside0.mk (below_step HB4.out hb)
          have hk5 := blk_below HK4.out hb
          have d0 : w5.cell? ⟨wr.heap.size, 0, none⟩ = some (.slice A2 bs.length c2) := blk_cell hk5 0
          have d1 : w5.cell? ⟨wr.heap.size, 1, none⟩ = some (.bool false) := blk_cell hk5 1
          clear h1 hb hk5 HF HB4 HK4
          dsimp only [List.length_nil] at d0 ⊢
          go_wp2_with fail
          go_roundw
          case rel => exact ⟨1, by go_num, by decide, HB5.out⟩
          case measure => simp [intOf]
    · have h3 := readsI l0 2 65535 (by decide)
      rcases h3 with ⟨bs, hl, hf, hd⟩ | ⟨x, hl, hf, hd⟩ | ⟨x, bs, hl, hf, hd, hpos, hle⟩
      · as_aux_lemma =>
          have HRD := Aside0.mk hl
          have HFS := Aside0.mk hf
          have HDC := Aside0.mk hd
          clear hl hf hd
          have hr := rinshort_run wr (wr.alloc (.cells #[.slice A0 l0.length c0, .bool false] 61)) wr.heap.size A0 c0 l0 false ⟨Nat.le_refl _, blk_new wr _, Kd.C_below HR.out HB.out, hc0, HOK.out, below_alloc (Below.refl _ _) _⟩
          rw [show lowI (l0, false) 2 65535 = _ from HRD.out] at hr
          have HC0 := Aside0.mk hr
          clear hr
          go_wp2_with fail
          with_reducible refine HC0.out.mono ?_
          rintro r w1 ⟨rfl, ⟨A2, c2, hI⟩, _⟩
          have HBK := Aside0.mk hI.blk
          have HB1 := Aside0.mk (below_step HB.out hI.lo)
          clear hI
          dsimp only
          go_wp2_with fail
          refine (short_run w1).mono ?_
          rintro r w2 ⟨f1, f2, rfl, hf, hb⟩
          have HF := Aside0.mk hf
          have HB2 := Aside0.mk (below_step HB1.out hb)
          have HK2 := Aside0.mk (blk_below HBK.out hb)
          clear hf hb HBK HB1
          simp only [numV]
          go_wp2_with fail
          have h1 := dec_I w2 f1 f2 2 65535 HF.out A0 c0 l0 (Kd.C_below HR.out HB2.out) hc0 HOK.out
          rw [HDC.out] at h1
          refine h1.mono ?_
          rintro r w3 ⟨v, rfl, rfl, hb⟩
          have HB3 := Aside0.mk (below_step HB2.out hb)
          have HK3 := Aside0.mk (blk_below HK2.out hb)
          clear h1 hb HF HB2 HK2
          dsimp only
          go_wp2_with fail
          refine (short_run w3).mono ?_
          rintro r w4 ⟨f1, f2, rfl, hf, hb⟩
          have HF := Aside0.mk hf
          have HB4 := Aside0.mk (below_step HB3.out hb)
          have HK4 := Aside0.mk (blk_below HK3.out hb)
          clear hf hb HB3 HK3
          simp only [numV]
          go_wp2_with fail
          have h1 := fst_I w4 f1 f2 2 65535 HF.out A0 c0 l0 (Kd.C_below HR.out HB4.out) hc0 HOK.out
          rw [HFS.out] at h1
          refine h1.mono ?_
          rintro r w5 ⟨v, rfl, rfl, hb⟩
          have HB5 := Aside0.mk (below_step HB4.out hb)
          have hk5 := blk_below HK4.out hb
          have d0 : w5.cell? ⟨wr.heap.size, 0, none⟩ = some (.slice A2 bs.length c2) := blk_cell hk5 0
          have d1 : w5.cell? ⟨wr.heap.size, 1, none⟩ = some (.bool true) := blk_cell hk5 1
          clear h1 hb hk5 HF HB4 HK4
          dsimp only [List.length_nil] at d0 ⊢
          go_wp2_with fail
          go_roundw
          case rel => exact ⟨2, by go_num, by decide, HB5.out⟩
          case measure => simp [intOf]
      · as_aux_lemma =>
          have HRD := Aside0.mk hl
          have HFS := Aside0.mk hf
          have HDC := Aside0.mk hd
          clear hl hf hd
          have hr := rinshort_run wr (wr.alloc (.cells #[.slice A0 l0.length c0, .bool false] 61)) wr.heap.size A0 c0 l0 false ⟨Nat.le_refl _, blk_new wr _, Kd.C_below HR.out HB.out, hc0, HOK.out, below_alloc (Below.refl _ _) _⟩
          rw [show lowI (l0, false) 2 65535 = _ from HRD.out] at hr
          have HC0 := Aside0.mk hr
          clear hr
          go_wp2_with fail
          with_reducible refine HC0.out.mono ?_
          rintro r w1 ⟨rfl, ⟨A2, c2, hI⟩, _⟩
          have HBK := Aside0.mk hI.blk
          have HB1 := Aside0.mk (below_step HB.out hI.lo)
          clear hI
          dsimp only
          go_wp2_with fail
          refine (short_run w1).mono ?_
          rintro r w2 ⟨f1, f2, rfl, hf, hb⟩
          have HF := Aside0.mk hf
          have HB2 := Aside0.mk (below_step HB1.out hb)
          have HK2 := Aside0.mk (blk_below HBK.out hb)
          clear hf hb HBK HB1
          simp only [numV]
          go_wp2_with fail
          have h1 := dec_I w2 f1 f2 2 65535 HF.out A0 c0 l0 (Kd.C_below HR.out HB2.out) hc0 HOK.out
          rw [HDC.out] at h1
          refine h1.mono ?_
          rintro r w3 ⟨v, rfl, rfl, hb⟩
          have HB3 := Aside0.mk (below_step HB2.out hb)
          have HK3 := Aside0.mk (blk_below HK2.out hb)
          clear h1 hb HF HB2 HK2
          dsimp only
          go_wp2_with fail
          refine (short_run w3).mono ?_
          rintro r w4 ⟨f1, f2, rfl, hf, hb⟩
          have HF := Aside0.mk hf
          have HB4 := Aside0.mk (below_step HB3.out hb)
          have HK4 := Aside0.mk (blk_below HK3.out hb)
          clear hf hb HB3 HK3
          simp only [numV]
          go_wp2_with fail
          have h1 := fst_I w4 f1 f2 2 65535 HF.out A0 c0 l0 (Kd.C_below HR.out HB4.out) hc0 HOK.out
          rw [HFS.out] at h1
          refine h1.mono ?_
          rintro r w5 ⟨v, rfl, rfl, hb⟩
          have HB5 := Aside0.mk (below_step HB4.out hb)
          have hk5 := blk_below HK4.out hb
          have d0 : w5.cell? ⟨wr.heap.size, 0, none⟩ = some (.slice A2 ([] : List Int).length c2) := blk_cell hk5 0
          have d1 : w5.cell? ⟨wr.heap.size, 1, none⟩ = some (.bool false) := blk_cell hk5 1
          clear h1 hb hk5 HF HB4 HK4
          dsimp only [List.length_nil] at d0 ⊢
          go_wp2_with fail
          go_roundw
          case rel => exact ⟨2, by go_num, by decide, HB5.out⟩
          case measure => simp [intOf]
      · as_aux_lemma =>
          have HRD := Aside0.mk hl
          have HFS := Aside0.mk hf
          have HDC := Aside0.mk hd
          clear hl hf hd
          have hne0 : ¬ bs = [] := by rintro rfl; simp at hpos
          have hb0 : ((bs.length : Int) == 0) = false := by rw [beq_eq_false_iff_ne]; omega
          have hr := rinshort_run wr (wr.alloc (.cells #[.slice A0 l0.length c0, .bool false] 61)) wr.heap.size A0 c0 l0 false ⟨Nat.le_refl _, blk_new wr _, Kd.C_below HR.out HB.out, hc0, HOK.out, below_alloc (Below.refl _ _) _⟩
          rw [show lowI (l0, false) 2 65535 = _ from HRD.out] at hr
          have HC0 := Aside0.mk hr
          clear hr
          go_wp2_with fail
          with_reducible refine HC0.out.mono ?_
          rintro r w1 ⟨rfl, ⟨A2, c2, hI⟩, _⟩
          have HBK := Aside0.mk hI.blk
          have HB1 := Aside0.mk (below_step HB.out hI.lo)
          clear hI
          dsimp only
          go_wp2_with fail
          refine (short_run w1).mono ?_
          rintro r w2 ⟨f1, f2, rfl, hf, hb⟩
          have HF := Aside0.mk hf
          have HB2 := Aside0.mk (below_step HB1.out hb)
          have HK2 := Aside0.mk (blk_below HBK.out hb)
          clear hf hb HBK HB1
          simp only [numV]
          go_wp2_with fail
          have h1 := dec_I w2 f1 f2 2 65535 HF.out A0 c0 l0 (Kd.C_below HR.out HB2.out) hc0 HOK.out
          rw [HDC.out] at h1
          refine h1.mono ?_
          rintro r w3 ⟨v, rfl, rfl, hb⟩
          have HB3 := Aside0.mk (below_step HB2.out hb)
          have HK3 := Aside0.mk (blk_below HK2.out hb)
          clear h1 hb HF HB2 HK2
          dsimp only
          go_wp2_with fail
          refine (short_run w3).mono ?_
          rintro r w4 ⟨f1, f2, rfl, hf, hb⟩
          have HF := Aside0.mk hf
          have HB4 := Aside0.mk (below_step HB3.out hb)
          have HK4 := Aside0.mk (blk_below HK3.out hb)
          clear hf hb HB3 HK3
          simp only [numV]
          go_wp2_with fail
          have h1 := fst_I w4 f1 f2 2 65535 HF.out A0 c0 l0 (Kd.C_below HR.out HB4.out) hc0 HOK.out
          rw [HFS.out] at h1
          refine h1.mono ?_
          rintro r w5 ⟨v, rfl, rfl, hb⟩
          have HB5 := Aside0.mk (below_step HB4.out hb)
          have hk5 := blk_below HK4.out hb
          have d0 : w5.cell? ⟨wr.heap.size, 0, none⟩ = some (.slice A2 bs.length c2) := blk_cell hk5 0
          have d1 : w5.cell? ⟨wr.heap.size, 1, none⟩ = some (.bool false) := blk_cell hk5 1
          clear h1 hb hk5 HF HB4 HK4
          dsimp only [List.length_nil] at d0 ⊢
          go_wp2_with fail
          go_roundw
          case rel => exact ⟨2, by go_num, by decide, HB5.out⟩
          case measure => simp [intOf]
    · have h3 := readsI l0 8 0 (by decide)
      rcases h3 with ⟨bs, hl, hf, hd⟩ | ⟨x, hl, hf, hd⟩ | ⟨x, bs, hl, hf, hd, hpos, hle⟩
      · as_aux_lemma =>
          have HRD := Aside0.mk hl
          have HFS := Aside0.mk hf
          have HDC := Aside0.mk hd
          clear hl hf hd
          have hr := rinint_run wr (wr.alloc (.cells #[.slice A0 l0.length c0, .bool false] 61)) wr.heap.size A0 c0 l0 false ⟨Nat.le_refl _, blk_new wr _, Kd.C_below HR.out HB.out, hc0, HOK.out, below_alloc (Below.refl _ _) _⟩
          rw [show lowI (l0, false) 8 0 = _ from HRD.out] at hr
          have HC0 := Aside0.mk hr
          clear hr
          go_wp2_with fail
          with_reducible refine HC0.out.mono ?_
          rintro r w1 ⟨rfl, ⟨A2, c2, hI⟩, _⟩
          have HBK := Aside0.mk hI.blk
          have HB1 := Aside0.mk (below_step HB.out hI.lo)
          clear hI
          dsimp only
          go_wp2_with fail
          refine (int_run w1).mono ?_
          rintro r w2 ⟨f1, f2, rfl, hf, hb⟩
          have HF := Aside0.mk hf
          have HB2 := Aside0.mk (below_step HB1.out hb)
          have HK2 := Aside0.mk (blk_below HBK.out hb)
          clear hf hb HBK HB1
          simp only [numV]
          go_wp2_with fail
          have h1 := dec_I w2 f1 f2 8 0 HF.out A0 c0 l0 (Kd.C_below HR.out HB2.out) hc0 HOK.out
          rw [HDC.out] at h1
          refine h1.mono ?_
          rintro r w3 ⟨v, rfl, rfl, hb⟩
          have HB3 := Aside0.mk (below_step HB2.out hb)
          have HK3 := Aside0.mk (blk_below HK2.out hb)
          clear h1 hb HF HB2 HK2
          dsimp only
          go_wp2_with fail
          refine (int_run w3).mono ?_
          rintro r w4 ⟨f1, f2, rfl, hf, hb⟩
          have HF := Aside0.mk hf
          have HB4 := Aside0.mk (below_step HB3.out hb)
          have HK4 := Aside0.mk (blk_below HK3.out hb)
          clear hf hb HB3 HK3
          simp only [numV]
          go_wp2_with fail
          have h1 := fst_I w4 f1 f2 8 0 HF.out A0 c0 l0 (Kd.C_below HR.out HB4.out) hc0 HOK.out
          rw [HFS.out] at h1
          refine h1.mono ?_
          rintro r w5 ⟨v, rfl, rfl, hb⟩
          have HB5 := Aside0.mk (below_step HB4.out hb)
          have hk5 := blk_below HK4.out hb
          have d0 : w5.cell? ⟨wr.heap.size, 0, none⟩ = some (.slice A2 bs.length c2) := blk_cell hk5 0
          have d1 : w5.cell? ⟨wr.heap.size, 1, none⟩ = some (.bool true) := blk_cell hk5 1
          clear h1 hb hk5 HF HB4 HK4
          dsimp only [List.length_nil] at d0 ⊢
          go_wp2_with fail
          go_roundw
          case rel => exact ⟨3, by go_num, by decide, HB5.out⟩
          case measure => simp [intOf]
      · as_aux_lemma =>
          have HRD := Aside0.mk hl
          have HFS := Aside0.mk hf
          have HDC := Aside0.mk hd
          clear hl hf hd
          have hr := rinint_run wr (wr.alloc (.cells #[.slice A0 l0.length c0, .bool false] 61)) wr.heap.size A0 c0 l0 false ⟨Nat.le_refl _, blk_new wr _, Kd.C_below HR.out HB.out, hc0, HOK.out, below_alloc (Below.refl _ _) _⟩
          rw [show lowI (l0, false) 8 0 = _ from HRD.out] at hr
          have HC0 := Aside0.mk hr
          clear hr
          go_wp2_with fail
          with_reducible refine HC0.out.mono ?_
          rintro r w1 ⟨rfl, ⟨A2, c2, hI⟩, _⟩
          have HBK := Aside0.mk hI.blk
          have HB1 := Aside0.mk (below_step HB.out hI.lo)
          clear hI
          dsimp only
          go_wp2_with fail
          refine (int_run w1).mono ?_
          rintro r w2 ⟨f1, f2, rfl, hf, hb⟩
          have HF := Aside0.mk hf
          have HB2 := Aside0.mk (below_step HB1.out hb)
          have HK2 := Aside0.mk (blk_below HBK.out hb)
          clear hf hb HBK HB1
          simp only [numV]
          go_wp2_with fail
          have h1 := dec_I w2 f1 f2 8 0 HF.out A0 c0 l0 (Kd.C_below HR.out HB2.out) hc0 HOK.out
          rw [HDC.out] at h1
          refine h1.mono ?_
          rintro r w3 ⟨v, rfl, rfl, hb⟩
          have HB3 := Aside0.mk (below_step HB2.out hb)
          have HK3 := Aside0.mk (blk_below HK2.out hb)
          clear h1 hb HF HB2 HK2
          dsimp only
          go_wp2_with fail
          refine (int_run w3).mono ?_
          rintro r w4 ⟨f1, f2, rfl, hf, hb⟩
          have HF := Aside0.mk hf
          have HB4 := Aside0.mk (below_step HB3.out hb)
          have HK4 := Aside0.mk (blk_below HK3.out hb)
          clear hf hb HB3 HK3
          simp only [numV]
          go_wp2_with fail
          have h1 := fst_I w4 f1 f2 8 0 HF.out A0 c0 l0 (Kd.C_below HR.out HB4.out) hc0 HOK.out
          rw [HFS.out] at h1
          refine h1.mono ?_
          rintro r w5 ⟨v, rfl, rfl, hb⟩
          have HB5 := Aside0.mk (below_step HB4.out hb)
          have hk5 := blk_below HK4.out hb
          have d0 : w5.cell? ⟨wr.heap.size, 0, none⟩ = some (.slice A2 ([] : List Int).length c2) := blk_cell hk5 0
          have d1 : w5.cell? ⟨wr.heap.size, 1, none⟩ = some (.bool false) := blk_cell hk5 1
          clear h1 hb hk5 HF HB4 HK4
          dsimp only [List.length_nil] at d0 ⊢
          go_wp2_with fail
          go_roundw
          case rel => exact ⟨3, by go_num, by decide, HB5.out⟩
          case measure => simp [intOf]
      · as_aux_lemma =>
          have HRD := Aside0.mk hl
          have HFS := Aside0.mk hf
          have HDC := Aside0.mk hd
          clear hl hf hd
          have hne0 : ¬ bs = [] := by rintro rfl; simp at hpos
          have hb0 : ((bs.length : Int) == 0) = false := by rw [beq_eq_false_iff_ne]; omega
          have hr := rinint_run wr (wr.alloc (.cells #[.slice A0 l0.length c0, .bool false] 61)) wr.heap.size A0 c0 l0 false ⟨Nat.le_refl _, blk_new wr _, Kd.C_below HR.out HB.out, hc0, HOK.out, below_alloc (Below.refl _ _) _⟩
          rw [show lowI (l0, false) 8 0 = _ from HRD.out] at hr
          have HC0 := Aside0.mk hr
          clear hr
          go_wp2_with fail
          with_reducible refine HC0.out.mono ?_
          rintro r w1 ⟨rfl, ⟨A2, c2, hI⟩, _⟩
          have HBK := Aside0.mk hI.blk
          have HB1 := Aside0.mk (below_step HB.out hI.lo)
          clear hI
          dsimp only
          go_wp2_with fail
          refine (int_run w1).mono ?_
          rintro r w2 ⟨f1, f2, rfl, hf, hb⟩
          have HF := Aside0.mk hf
          have HB2 := Aside0.mk (below_step HB1.out hb)
          have HK2 := Aside0.mk (blk_below HBK.out hb)
          clear hf hb HBK HB1
          simp only [numV]
          go_wp2_with fail
          have h1 := dec_I w2 f1 f2 8 0 HF.out A0 c0 l0 (Kd.C_below HR.out HB2.out) hc0 HOK.out
          rw [HDC.out] at h1
          refine h1.mono ?_
          rintro r w3 ⟨v, rfl, rfl, hb⟩
          have HB3 := Aside0.mk (below_step HB2.out hb)
          have HK3 := Aside0.mk (blk_below HK2.out hb)
          clear h1 hb HF HB2 HK2
          dsimp only
          go_wp2_with fail
          refine (int_run w3).mono ?_
          rintro r w4 ⟨f1, f2, rfl, hf, hb⟩
          have HF := Aside0.mk hf
          have HB4 := Aside0.mk (below_step HB3.out hb)
          have HK4 := Aside0.mk (blk_below HK3.out hb)
          clear hf hb HB3 HK3
          simp only [numV]
          go_wp2_with fail
          have h1 := fst_I w4 f1 f2 8 0 HF.out A0 c0 l0 (Kd.C_below HR.out HB4.out) hc0 HOK.out
          rw [HFS.out] at h1
          refine h1.mono ?_
          rintro r w5 ⟨v, rfl, rfl, hb⟩
          have HB5 := Aside0.mk (below_step HB4.out hb)
          have hk5 := blk_below HK4.out hb
          have d0 : w5.cell? ⟨wr.heap.size, 0, none⟩ = some (.slice A2 bs.length c2) := blk_cell hk5 0
          have d1 : w5.cell? ⟨wr.heap.size, 1, none⟩ = some (.bool false) := blk_cell hk5 1
          clear h1 hb hk5 HF HB4 HK4
          dsimp only [List.length_nil] at d0 ⊢
          go_wp2_with fail
          go_roundw
          case rel => exact ⟨3, by go_num, by decide, HB5.out⟩
          case measure => simp [intOf]
    · have h3 := readsF l0
      rcases h3 with ⟨bs, hl, hf, hd⟩ | ⟨x, hl, hf, hd⟩ | ⟨x, bs, hl, hf, hd, hpos, hle⟩
      · as_aux_lemma =>
          have HRD := Aside0.mk hl
          have HFS := Aside0.mk hf
          have HDC := Aside0.mk hd
          clear hl hf hd
          have hr := rinflag_run wr (wr.alloc (.cells #[.slice A0 l0.length c0, .bool false] 61)) wr.heap.size A0 c0 l0 false ⟨Nat.le_refl _, blk_new wr _, Kd.C_below HR.out HB.out, hc0, HOK.out, below_alloc (Below.refl _ _) _⟩
          rw [show flagG (l0, false) = _ from HRD.out] at hr
          have HC0 := Aside0.mk hr
          clear hr
          go_wp2_with fail
          with_reducible refine HC0.out.mono ?_
          rintro r w1 ⟨rfl, ⟨A2, c2, hI⟩, _⟩
          have HBK := Aside0.mk hI.blk
          have HB1 := Aside0.mk (below_step HB.out hI.lo)
          clear hI
          dsimp only
          go_wp2_with fail
          refine (flag_make w1).mono ?_
          rintro r w2 ⟨bf, bt, bk, a1, a2, rfl, hf, hb⟩
          have HF := Aside0.mk hf
          have HB2 := Aside0.mk (below_step HB1.out hb)
          have HK2 := Aside0.mk (blk_below HBK.out hb)
          clear hf hb HBK HB1
          simp only [flagV]
          go_wp2_with fail
          have h1 := dec_Bo w2 bf bt bk a1 a2 HF.out A0 c0 l0 (Kd.C_below HR.out HB2.out) hc0 HOK.out
          rw [HDC.out] at h1
          refine h1.mono ?_
          rintro r w3 ⟨v, rfl, rfl, hb⟩
          have HB3 := Aside0.mk (below_step HB2.out hb)
          have HK3 := Aside0.mk (blk_below HK2.out hb)
          clear h1 hb HF HB2 HK2
          dsimp only
          go_wp2_with fail
          refine (flag_make w3).mono ?_
          rintro r w4 ⟨bf, bt, bk, a1, a2, rfl, hf, hb⟩
          have HF := Aside0.mk hf
          have HB4 := Aside0.mk (below_step HB3.out hb)
          have HK4 := Aside0.mk (blk_below HK3.out hb)
          clear hf hb HB3 HK3
          simp only [flagV]
          go_wp2_with fail
          have h1 := fst_Bo w4 bf bt bk a1 a2 HF.out A0 c0 l0 (Kd.C_below HR.out HB4.out) hc0 HOK.out
          rw [HFS.out] at h1
          refine h1.mono ?_
          rintro r w5 ⟨v, rfl, rfl, hb⟩
          have HB5 := Aside0.mk (below_step HB4.out hb)
          have hk5 := blk_below HK4.out hb
          have d0 : w5.cell? ⟨wr.heap.size, 0, none⟩ = some (.slice A2 bs.length c2) := blk_cell hk5 0
          have d1 : w5.cell? ⟨wr.heap.size, 1, none⟩ = some (.bool true) := blk_cell hk5 1
          clear h1 hb hk5 HF HB4 HK4
          dsimp only [List.length_nil] at d0 ⊢
          go_wp2_with fail
          go_roundw
          case rel => exact ⟨4, by go_num, by decide, HB5.out⟩
          case measure => simp [intOf]
      · as_aux_lemma =>
          have HRD := Aside0.mk hl
          have HFS := Aside0.mk hf
          have HDC := Aside0.mk hd
          clear hl hf hd
          have hr := rinflag_run wr (wr.alloc (.cells #[.slice A0 l0.length c0, .bool false] 61)) wr.heap.size A0 c0 l0 false ⟨Nat.le_refl _, blk_new wr _, Kd.C_below HR.out HB.out, hc0, HOK.out, below_alloc (Below.refl _ _) _⟩
          rw [show flagG (l0, false) = _ from HRD.out] at hr
          have HC0 := Aside0.mk hr
          clear hr
          cases x
          · as_aux_lemma =>
              go_wp2_with fail
              with_reducible refine HC0.out.mono ?_
              rintro r w1 ⟨rfl, ⟨A2, c2, hI⟩, _⟩
              have HBK := Aside0.mk hI.blk
              have HB1 := Aside0.mk (below_step HB.out hI.lo)
              clear hI
              dsimp only
              go_wp2_with fail
              refine (flag_make w1).mono ?_
              rintro r w2 ⟨bf, bt, bk, a1, a2, rfl, hf, hb⟩
              have HF := Aside0.mk hf
              have HB2 := Aside0.mk (below_step HB1.out hb)
              have HK2 := Aside0.mk (blk_below HBK.out hb)
              clear hf hb HBK HB1
              simp only [flagV]
              go_wp2_with fail
              have h1 := dec_Bo w2 bf bt bk a1 a2 HF.out A0 c0 l0 (Kd.C_below HR.out HB2.out) hc0 HOK.out
              rw [HDC.out] at h1
              refine h1.mono ?_
              rintro r w3 ⟨v, rfl, rfl, hb⟩
              have HB3 := Aside0.mk (below_step HB2.out hb)
              have HK3 := Aside0.mk (blk_below HK2.out hb)
              clear h1 hb HF HB2 HK2
              dsimp only
              go_wp2_with fail
              refine (flag_make w3).mono ?_
              rintro r w4 ⟨bf, bt, bk, a1, a2, rfl, hf, hb⟩
              have HF := Aside0.mk hf
              have HB4 := Aside0.mk (below_step HB3.out hb)
              have HK4 := Aside0.mk (blk_below HK3.out hb)
              clear hf hb HB3 HK3
              simp only [flagV]
              go_wp2_with fail
              have h1 := fst_Bo w4 bf bt bk a1 a2 HF.out A0 c0 l0 (Kd.C_below HR.out HB4.out) hc0 HOK.out
              rw [HFS.out] at h1
              refine h1.mono ?_
              rintro r w5 ⟨v, rfl, rfl, hb⟩
              have HB5 := Aside0.mk (below_step HB4.out hb)
              have hk5 := blk_below HK4.out hb
              have d0 : w5.cell? ⟨wr.heap.size, 0, none⟩ = some (.slice A2 ([] : List Int).length c2) := blk_cell hk5 0
              have d1 : w5.cell? ⟨wr.heap.size, 1, none⟩ = some (.bool false) := blk_cell hk5 1
              clear h1 hb hk5 HF HB4 HK4
              dsimp only [List.length_nil] at d0 ⊢
              go_wp2_with fail
              go_roundw
              case rel => exact ⟨4, by go_num, by decide, HB5.out⟩
              case measure => simp [intOf]
          · as_aux_lemma =>
              go_wp2_with fail
              with_reducible refine HC0.out.mono ?_
              rintro r w1 ⟨rfl, ⟨A2, c2, hI⟩, _⟩
              have HBK := Aside0.mk hI.blk
              have HB1 := Aside0.mk (below_step HB.out hI.lo)
              clear hI
              dsimp only
              go_wp2_with fail
              refine (flag_make w1).mono ?_
              rintro r w2 ⟨bf, bt, bk, a1, a2, rfl, hf, hb⟩
              have HF := Aside0.mk hf
              have HB2 := Aside0.mk (below_step HB1.out hb)
              have HK2 := Aside0.mk (blk_below HBK.out hb)
              clear hf hb HBK HB1
              simp only [flagV]
              go_wp2_with fail
              have h1 := dec_Bo w2 bf bt bk a1 a2 HF.out A0 c0 l0 (Kd.C_below HR.out HB2.out) hc0 HOK.out
              rw [HDC.out] at h1
              refine h1.mono ?_
              rintro r w3 ⟨v, rfl, rfl, hb⟩
              have HB3 := Aside0.mk (below_step HB2.out hb)
              have HK3 := Aside0.mk (blk_below HK2.out hb)
              clear h1 hb HF HB2 HK2
              dsimp only
              go_wp2_with fail
              refine (flag_make w3).mono ?_
              rintro r w4 ⟨bf, bt, bk, a1, a2, rfl, hf, hb⟩
              have HF := Aside0.mk hf
              have HB4 := Aside0.mk (below_step HB3.out hb)
              have HK4 := Aside0.mk (blk_below HK3.out hb)
              clear hf hb HB3 HK3
              simp only [flagV]
              go_wp2_with fail
              have h1 := fst_Bo w4 bf bt bk a1 a2 HF.out A0 c0 l0 (Kd.C_below HR.out HB4.out) hc0 HOK.out
              rw [HFS.out] at h1
              refine h1.mono ?_
              rintro r w5 ⟨v, rfl, rfl, hb⟩
              have HB5 := Aside0.mk (below_step HB4.out hb)
              have hk5 := blk_below HK4.out hb
              have d0 : w5.cell? ⟨wr.heap.size, 0, none⟩ = some (.slice A2 ([] : List Int).length c2) := blk_cell hk5 0
              have d1 : w5.cell? ⟨wr.heap.size, 1, none⟩ = some (.bool false) := blk_cell hk5 1
              clear h1 hb hk5 HF HB4 HK4
              dsimp only [List.length_nil] at d0 ⊢
              go_wp2_with fail
              go_roundw
              case rel => exact ⟨4, by go_num, by decide, HB5.out⟩
              case measure => simp [intOf]
      · as_aux_lemma =>
          have HRD := Aside0.mk hl
          have HFS := Aside0.mk hf
          have HDC := Aside0.mk hd
          clear hl hf hd
          have hne0 : ¬ bs = [] := by rintro rfl; simp at hpos
          have hb0 : ((bs.length : Int) == 0) = false := by rw [beq_eq_false_iff_ne]; omega
          have hr := rinflag_run wr (wr.alloc (.cells #[.slice A0 l0.length c0, .bool false] 61)) wr.heap.size A0 c0 l0 false ⟨Nat.le_refl _, blk_new wr _, Kd.C_below HR.out HB.out, hc0, HOK.out, below_alloc (Below.refl _ _) _⟩
          rw [show flagG (l0, false) = _ from HRD.out] at hr
          have HC0 := Aside0.mk hr
          clear hr
          cases x
          · as_aux_lemma =>
              go_wp2_with fail
              with_reducible refine HC0.out.mono ?_
              rintro r w1 ⟨rfl, ⟨A2, c2, hI⟩, _⟩
              have HBK := Aside0.mk hI.blk
              have HB1 := Aside0.mk (below_step HB.out hI.lo)
              clear hI
              dsimp only
              go_wp2_with fail
              refine (flag_make w1).mono ?_
              rintro r w2 ⟨bf, bt, bk, a1, a2, rfl, hf, hb⟩
              have HF := Aside0.mk hf
              have HB2 := Aside0.mk (below_step HB1.out hb)
              have HK2 := Aside0.mk (blk_below HBK.out hb)
              clear hf hb HBK HB1
              simp only [flagV]
              go_wp2_with fail
              have h1 := dec_Bo w2 bf bt bk a1 a2 HF.out A0 c0 l0 (Kd.C_below HR.out HB2.out) hc0 HOK.out
              rw [HDC.out] at h1
              refine h1.mono ?_
              rintro r w3 ⟨v, rfl, rfl, hb⟩
              have HB3 := Aside0.mk (below_step HB2.out hb)
              have HK3 := Aside0.mk (blk_below HK2.out hb)
              clear h1 hb HF HB2 HK2
              dsimp only
              go_wp2_with fail
              refine (flag_make w3).mono ?_
              rintro r w4 ⟨bf, bt, bk, a1, a2, rfl, hf, hb⟩
              have HF := Aside0.mk hf
              have HB4 := Aside0.mk (below_step HB3.out hb)
              have HK4 := Aside0.mk (blk_below HK3.out hb)
              clear hf hb HB3 HK3
              simp only [flagV]
              go_wp2_with fail
              have h1 := fst_Bo w4 bf bt bk a1 a2 HF.out A0 c0 l0 (Kd.C_below HR.out HB4.out) hc0 HOK.out
              rw [HFS.out] at h1
              refine h1.mono ?_
              rintro r w5 ⟨v, rfl, rfl, hb⟩
              have HB5 := Aside0.mk (below_step HB4.out hb)
              have hk5 := blk_below HK4.out hb
              have d0 : w5.cell? ⟨wr.heap.size, 0, none⟩ = some (.slice A2 bs.length c2) := blk_cell hk5 0
              have d1 : w5.cell? ⟨wr.heap.size, 1, none⟩ = some (.bool false) := blk_cell hk5 1
              clear h1 hb hk5 HF HB4 HK4
              dsimp only [List.length_nil] at d0 ⊢
              go_wp2_with fail
              go_roundw
              case rel => exact ⟨4, by go_num, by decide, HB5.out⟩
              case measure => simp [intOf]
          · as_aux_lemma =>
              go_wp2_with fail
              with_reducible refine HC0.out.mono ?_
              rintro r w1 ⟨rfl, ⟨A2, c2, hI⟩, _⟩
              have HBK := Aside0.mk hI.blk
              have HB1 := Aside0.mk (below_step HB.out hI.lo)
              clear hI
              dsimp only
              go_wp2_with fail
              refine (flag_make w1).mono ?_
              rintro r w2 ⟨bf, bt, bk, a1, a2, rfl, hf, hb⟩
              have HF := Aside0.mk hf
              have HB2 := Aside0.mk (below_step HB1.out hb)
              have HK2 := Aside0.mk (blk_below HBK.out hb)
              clear hf hb HBK HB1
              simp only [flagV]
              go_wp2_with fail
              have h1 := dec_Bo w2 bf bt bk a1 a2 HF.out A0 c0 l0 (Kd.C_below HR.out HB2.out) hc0 HOK.out
              rw [HDC.out] at h1
              refine h1.mono ?_
              rintro r w3 ⟨v, rfl, rfl, hb⟩
              have HB3 := Aside0.mk (below_step HB2.out hb)
              have HK3 := Aside0.mk (blk_below HK2.out hb)
              clear h1 hb HF HB2 HK2
              dsimp only
              go_wp2_with fail
              refine (flag_make w3).mono ?_
              rintro r w4 ⟨bf, bt, bk, a1, a2, rfl, hf, hb⟩
              have HF := Aside0.mk hf
              have HB4 := Aside0.mk (below_step HB3.out hb)
              have HK4 := Aside0.mk (blk_below HK3.out hb)
              clear hf hb HB3 HK3
              simp only [flagV]
              go_wp2_with fail
              have h1 := fst_Bo w4 bf bt bk a1 a2 HF.out A0 c0 l0 (Kd.C_below HR.out HB4.out) hc0 HOK.out
              rw [HFS.out] at h1
              refine h1.mono ?_
              rintro r w5 ⟨v, rfl, rfl, hb⟩
              have HB5 := Aside0.mk (below_step HB4.out hb)
              have hk5 := blk_below HK4.out hb
              have d0 : w5.cell? ⟨wr.heap.size, 0, none⟩ = some (.slice A2 bs.length c2) := blk_cell hk5 0
              have d1 : w5.cell? ⟨wr.heap.size, 1, none⟩ = some (.bool false) := blk_cell hk5 1
              clear h1 hb hk5 HF HB4 HK4
              dsimp only [List.length_nil] at d0 ⊢
              go_wp2_with fail
              go_roundw
              case rel => exact ⟨4, by go_num, by decide, HB5.out⟩
              case measure => simp [intOf]
    · go_wp2_with fail
      go_ret
      exact ⟨rfl, HB.out⟩

end Go.Proofs.Ytdlkkjfbbeffbaa.P
