/- Ytdlkkjfbbeffbaa: what Go functions come to, and that they do: walks, printed by a program of this session or typed by hand; no statement of the seat stands here. -/
import Derived.Test.YtdlkkjfbbeffbaaP0
import Derived.Test.YtdlkkjfbbeffbaaPF16
import Derived.Test.YtdlkkjfbbeffbaaCodecNone
import Derived.Test.YtdlkkjfbbeffbaaPF16
namespace Go.Proofs.Ytdlkkjfbbeffbaa.P
open Go.RowKit Go.Proofs.YtdlkkjfbbeffbaaW.PrintWords Go.Proofs.YtdlkkjfbbeffbaaW.PrintLast Go.Proofs.YtdlkkjfbbeffbaaW.PrintMore
attribute [local go_sem] max2_int min2_int max_two min_two max_three min_three max_four min_four   -- for this text's walks alone
set_option linter.unusedVariables false
set_option linter.unusedSimpArgs false


/-! ### pianolalaw01_CodecFixed: function 9 -/
-- IMPORT Derived.Test.YtdlkkjfbbeffbaaCodecNone
-- IMPORT Derived.Test.YtdlkkjfbbeffbaaPF16
def pianolalaw01_CodecFixed.f (a0 : Int) (l1 : List Int) : Option Bool := if okBytes l1 = true then some true else none
set_option maxRecDepth 100000 in
set_option maxHeartbeats 1000000 in
theorem pianolalaw01_CodecFixed.calls (a0 : Int) (A1 : Option Addr) (c1 : Nat) (l1 : List Int) (r : Bool) (w : World) (hr1 : Kd.C (Kd.int .u8) w A1 l1.length l1) (hc1 : l1.length ≤ c1) (h : pianolalaw01_CodecFixed.f a0 l1 = some r) :
    Calls Try.prog 9 #[.int .i64 a0, .slice A1 l1.length c1] w fun e w' => e = .returned (.bool r) ∧ Below w.heap.size w w' := by
  have hok : okBytes l1 = true := by
    unfold pianolalaw01_CodecFixed.f at h
    split at h
    · assumption
    · cases h
  obtain rfl : r = true := by
    unfold pianolalaw01_CodecFixed.f at h
    rw [if_pos hok] at h
    exact (Option.some.inj h).symm
  have HOK := Aside0.mk (okBytes_is hok)
  have HR := Aside0.mk hr1
  have hmx := Kd.C_max hr1
  clear h hok hr1
  have key : ∀ (es ds : List Int × Int), encR (fixS a0 ([], 0) l1) = es → decR (fixG a0) [] l1 = ds → ((0 ≤ a0 ∧ a0 ≤ 65536 ∧ a0 = (l1.length : Int) ∧ es = (l1, 0) ∧ ds = (l1, 0)) ∨ ((a0 < 0 ∨ 65536 < a0 ∨ (0 ≤ a0 ∧ a0 ≤ 65536 ∧ a0 ≠ (l1.length : Int))) ∧ es = ([], 1) ∧ ds = ([], 10))) →
      Calls Try.prog 9 #[.int .i64 a0, .slice A1 l1.length c1] w fun e w' => e = .returned (.bool true) ∧ Below w.heap.size w w' := by
    intro es ds hes hds hcase
    have HC := Aside0.mk hcase
    have HES := Aside0.mk hes
    have HDS := Aside0.mk hds
    clear hcase hes hds
    go_enter Try.func9, Try.ntmps9
    go_wp2_with fail
    refine (fixed_make a0 w).mono ?_
    rintro r w1 ⟨bm, bn, rfl, hf, hb1⟩
    have HF := Aside0.mk hf
    have HB1 := Aside0.mk hb1
    clear hf hb1
    simp only [fixV]
    go_wp2_with fail
    have h1 := enc_F w1 bm bn a0 A1 c1 l1 HF.out (Kd.C_below HR.out HB1.out)
    rw [HES.out] at h1
    refine h1.mono ?_
    rintro r w2 ⟨A2, c2, rfl, hC2, hl2, hb2⟩
    have HB2 := Aside0.mk (below_step HB1.out hb2)
    have HC2 := Aside0.mk hC2
    clear h1 hC2 hl2 hb2 HF HB1
    go_wp2_with fail
    refine (fixed_make a0 w2).mono ?_
    rintro r w3 ⟨bm, bn, rfl, hf, hb3⟩
    have HF := Aside0.mk hf
    have HB3 := Aside0.mk (below_step HB2.out hb3)
    have HC3 := Aside0.mk (Kd.C_below HC2.out hb3)
    clear hf hb3 HC2 HB2
    simp only [fixV]
    go_wp2_with fail
    have h1 := dec_F w3 bm bn a0 HF.out A1 c1 l1 (Kd.C_below HR.out HB3.out) hc1 HOK.out
    rw [HDS.out] at h1
    refine h1.mono ?_
    rintro r w4 ⟨v4, rfl, hR4, hb4⟩
    obtain ⟨A4, c4, hv4, hcap4, hC4⟩ := Kd.R_reads hR4
    subst hv4
    have HB4 := Aside0.mk (below_step HB3.out hb4)
    have HC4 := Aside0.mk (Kd.C_below HC3.out hb4)
    have HD4 := Aside0.mk hC4
    clear h1 hR4 hb4 hC4 HC3 HB3 HF hcap4
    go_wp2_with fail
    refine (enc_none 1 _).mono ?_
    rintro r w5 ⟨rfl, hb5⟩
    have hz5 := hb5.size
    have hn5 : w5.heap[w4.heap.size]? = some (.cells #[.nilFunc, .nilFunc] 37 (0, 0)) := blk_below (blk_new w4 _) hb5
    have q0 : w5.cell? ⟨w4.heap.size, 0, none⟩ = some .nilFunc := blk_cell hn5 0
    have q1 : w5.cell? ⟨w4.heap.size, 1, none⟩ = some .nilFunc := blk_cell hn5 1
    have HN5 := Aside0.mk hn5
    have hb5' : Below w4.heap.size w4 w5 := (below_alloc (Below.refl _ _) _).trans (hb5.mono (by simp only [World.size_alloc]; omega))
    have HB5 := Aside0.mk (below_step HB4.out hb5')
    have HC5 := Aside0.mk (Kd.C_below HC4.out hb5')
    have HD5 := Aside0.mk (Kd.C_below HD4.out hb5')
    clear hb5 hb5' hn5 HC4 HD4 HB4
    go_wp2_with fail
    refine (dec_none A1 l1.length c1 _).mono ?_
    rintro r w6 ⟨rfl, hb6⟩
    have hn6 := blk_below HN5.out hb6
    have q2 : w6.cell? ⟨w4.heap.size, 0, none⟩ = some .nilFunc := blk_cell hn6 0
    have q3 : w6.cell? ⟨w4.heap.size, 1, none⟩ = some .nilFunc := blk_cell hn6 1
    have HB6 := Aside0.mk (below_step HB5.out hb6)
    have HC6 := Aside0.mk (Kd.C_below HC5.out hb6)
    have HD6 := Aside0.mk (Kd.C_below HD5.out hb6)
    clear hb6 hn6 q0 q1 HC5 HD5 HB5 HN5
    go_wp2_with fail
    refine (fst_none A1 l1.length c1 _).mono ?_
    rintro r w7 ⟨rfl, hb7⟩
    have HB7 := Aside0.mk (below_step HB6.out hb7)
    have HC7 := Aside0.mk (Kd.C_below HC6.out hb7)
    have HD7 := Aside0.mk (Kd.C_below HD6.out hb7)
    clear hb7 q2 q3 HC6 HD6 HB6
    go_wp2_with fail
    refine (pianolalaw01_lives.calls true _ rfl).mono ?_
    rintro r w8 ⟨rfl, hb8⟩
    have HB8 := Aside0.mk (below_step HB7.out hb8)
    have hC8 := Kd.C_below HC7.out hb8
    have hD8 := Kd.C_below HD7.out hb8
    have hb := HB8.out
    clear hb8 HC7 HD7 HB7
    have hcv := Kd.C_string (P := Try.prog) (c := c2) Try.underlying40 Try.underlying5 Try.underlying9 hC8
    have hcv2 := Kd.C_string (P := Try.prog) (c := c4) Try.underlying40 Try.underlying5 Try.underlying9 hD8
    have hcv3 := Kd.C_string (P := Try.prog) (c := c1) Try.underlying40 Try.underlying5 Try.underlying9 (Kd.C_below HR.out hb)
    clear hC8 hD8 hb
    rcases HC.out with ⟨k0, k1, k2, k3, k4⟩ | ⟨k0, k3, k4⟩
    · subst k3 k4
      dsimp only at hcv hcv2 ⊢
      clear HC HES HDS
      subst k2
      go_wp2_with fail
      go_ret
      exact ⟨rfl, HB8.out⟩
    · subst k3 k4
      dsimp only [List.length_nil] at hcv hcv2 ⊢
      clear HC HES HDS
      rcases k0 with k0 | k0 | ⟨k0, k1, k2⟩
      · go_wp2_with fail
        go_ret
        exact ⟨rfl, HB8.out⟩
      · have k1 : decide (a0 < 0) = false := decide_eq_false (by omega)
        go_wp2_with fail
        go_ret
        exact ⟨rfl, HB8.out⟩
      · have k3 : (a0 != (l1.length : Int)) = true := by simpa using k2
        have k4 : (a0 == (l1.length : Int)) = false := by simpa using k2
        clear k2
        go_wp2_with fail
        go_ret
        exact ⟨rfl, HB8.out⟩
  refine key _ _ rfl rfl ?_
  rw [encR_fix, decR_fix]
  by_cases hh : mayN a0 = true ∧ (l1.length : Int) = a0
  · rw [if_pos hh, if_pos hh]
    have hm := hh.1
    unfold mayN at hm
    rw [Bool.and_eq_true, decide_eq_true_eq, decide_eq_true_eq] at hm
    exact .inl ⟨hm.1, hm.2, hh.2.symm, rfl, rfl⟩
  · rw [if_neg hh, if_neg hh]
    refine .inr ⟨?_, rfl, rfl⟩
    by_cases hm : mayN a0 = true
    · have h2 : ¬ (l1.length : Int) = a0 := fun e => hh ⟨hm, e⟩
      unfold mayN at hm
      rw [Bool.and_eq_true, decide_eq_true_eq, decide_eq_true_eq] at hm
      exact .inr (.inr ⟨hm.1, hm.2, fun e => h2 e.symm⟩)
    · unfold mayN at hm
      rw [Bool.and_eq_true, decide_eq_true_eq, decide_eq_true_eq] at hm
      omega

end Go.Proofs.Ytdlkkjfbbeffbaa.P
