/- Ytdlkkjfbbeffbaa: what Go functions come to, and that they do: walks, printed by a program of this session or typed by hand; no statement of the seat stands here. -/
import Derived.Test.YtdlkkjfbbeffbaaP0
import Derived.Test.YtdlkkjfbbeffbaaPF16
import Derived.Test.YtdlkkjfbbeffbaaCodecPl2
import Derived.Test.YtdlkkjfbbeffbaaCodecS
import Derived.Test.YtdlkkjfbbeffbaaPF16
namespace Go.Proofs.Ytdlkkjfbbeffbaa.P
open Go.RowKit Go.Proofs.YtdlkkjfbbeffbaaW.PrintWords Go.Proofs.YtdlkkjfbbeffbaaW.PrintLast Go.Proofs.YtdlkkjfbbeffbaaW.PrintMore
attribute [local go_sem] max2_int min2_int max_two min_two max_three min_three max_four min_four   -- for this text's walks alone
set_option linter.unusedVariables false
set_option linter.unusedSimpArgs false


/-! ### pianolalaw01_CodecBlobs: function 8 -/
-- IMPORT Derived.Test.YtdlkkjfbbeffbaaCodecPl2
-- IMPORT Derived.Test.YtdlkkjfbbeffbaaCodecS
-- IMPORT Derived.Test.YtdlkkjfbbeffbaaPF16
def pianolalaw01_CodecBlobs.f (l0 : List Int) : Option Bool := if okBytes l0 = true then some true else none
set_option maxRecDepth 100000 in
set_option maxHeartbeats 1000000 in
theorem pianolalaw01_CodecBlobs.calls (A0 : Option Addr) (c0 : Nat) (l0 : List Int) (r : Bool) (w : World) (hr0 : Kd.C (Kd.int .u8) w A0 l0.length l0) (hc0 : l0.length ≤ c0) (h : pianolalaw01_CodecBlobs.f l0 = some r) :
    Calls Try.prog 8 #[.slice A0 l0.length c0] w fun e w' => e = .returned (.bool r) ∧ Below w.heap.size w w' := by
  have hok : okBytes l0 = true := by
    unfold pianolalaw01_CodecBlobs.f at h
    split at h
    · assumption
    · cases h
  obtain rfl : r = true := by
    unfold pianolalaw01_CodecBlobs.f at h
    rw [if_pos hok] at h
    exact (Option.some.inj h).symm
  have HOK := Aside0.mk (okBytes_is hok)
  have HR := Aside0.mk hr0
  have hmx := Kd.C_max hr0
  have hsz := (okBytes_is hok).2
  clear h hok hr0
  have key : ∀ (s es : List Int × Int), blobS ([], 0) l0 = s → encR (blobS ([], 0) l0) = es → encR (textS ([], 0) (strOfNums l0)) = es → ((∃ cs, okL cs ∧ s = (cs, 0) ∧ es = (cs, 0) ∧ decR blobG [] cs = (l0, 0) ∧ decR textG (⟨#[]⟩ : ByteArray) cs = (strOfNums l0, 0)) ∨ (s = ([], 1) ∧ es = ([], 1))) →
      Calls Try.prog 8 #[.slice A0 l0.length c0] w fun e w' => e = .returned (.bool true) ∧ Below w.heap.size w w' := by
    intro s es hs he ht hcase
    have HS := Aside0.mk hs
    have HE := Aside0.mk he
    have HT := Aside0.mk ht
    have HCS := Aside0.mk hcase
    clear hs he ht hcase
    go_enter Try.func8, Try.ntmps8
    go_wp2_with fail
    have h1 := rblob_run w w.heap.size (.slice none 0 0) [] 0 A0 c0 l0 (w.alloc (.cells #[.slice none 0 0, .bool false, .bool false] 52)) ⟨Nat.le_refl _, blk_new w _, Kd.R_nil _ _ _ _ _, .inl rfl⟩ HR.out (below_alloc (Below.refl _ _) _) (by simp)
    rw [HS.out] at h1
    refine h1.mono ?_
    rintro r w1 ⟨rfl, ⟨v1, hO1⟩, hb1, hk1⟩
    have HO1 := Aside0.mk hO1
    have HB1 := Aside0.mk (show Below w.heap.size w w1 from (below_alloc (Below.refl _ _) _).trans hb1)
    have hz1 := HB1.out.size
    clear h1 hO1 hb1 hk1
    go_wp2_with (refine Kd.R_append_rows (Kd.int .u8) (Rr := fun x cs => cs = [.int .u8 x]) (w0 := w1) w1.heap.size rfl (.tmp 18) (.tmp 19) 40 5 (.int .u8 0) 1 rfl Try.underlying40 (by kernel_rfl) rfl (by decide) (by decide) (.slice (some ⟨w1.heap.size, 0, none⟩) 0 0) [] l0 A0 l0.length c0 (fun _ => True) (fun _ => False) rfl rfl (empty_own w1 w1.heap.size (Nat.le_refl _)) (Kd.C_alloc (Kd.C_below HR.out HB1.out) _) (fun _ _ h => h) (fun _ hk => hk.elim) (fun _ _ => trivial) (below_alloc (Below.refl _ _) _) (by rw [World.size_alloc]; omega) (by simp; omega) ?_; intro v2 w2 ho hb2 hg hat; obtain ⟨A2, c2, hv2⟩ := Kd.R_slice ho; subst hv2; simp only [List.nil_append] at ho hat; have HX := Aside0.mk (And.intro ho hb2); clear ho hb2 hg hat)
    refine (blob_make _).mono ?_
    rintro r w3 ⟨bb, e1, e2, rfl, hf, hb3⟩
    have HC3 := Aside0.mk (Kd.C_below (Kd.R_reads' HX.out.1).2.2 hb3)
    have HL3 := Aside0.mk (Kd.R_reads' HX.out.1).2.1
    have HO3 := Aside0.mk ((HO1.out.below HX.out.2).below hb3)
    have HB3 := Aside0.mk (below_step (below_step HB1.out HX.out.2) hb3)
    have HF := Aside0.mk hf
    clear hf hb3 HX HO1 HB1 hz1
    simp only [blobV]
    go_wp2_with fail
    have h1 := enc_B w3 bb e1 e2 A2 c2 l0 HF.out HC3.out
    rw [HE.out] at h1
    refine h1.mono ?_
    rintro r w4 ⟨A4, c4, rfl, hC4, hl4, hb4⟩
    have HC4 := Aside0.mk (Kd.C_below HC3.out hb4)
    have HX4 := Aside0.mk hC4
    have HXL := Aside0.mk hl4
    have HO4 := Aside0.mk (HO3.out.below hb4)
    have HB4 := Aside0.mk (below_step HB3.out hb4)
    clear h1 hC4 hl4 hb4 HC3 HF HO3 HB3
    go_upto_region 5 with (fail)
    have hcv : ∀ W, Below w4.heap.size w4 W → (convert 40 9 (.slice A0 l0.length c0)).run Try.prog W = .ok (.string (strOfNums l0)) W := fun W hW => Kd.C_string Try.underlying40 Try.underlying5 Try.underlying9 (Kd.C_below (Kd.C_below HR.out HB4.out) hW)
    have hbd : Below w4.heap.size w4 w4.drew := below_drew (Below.refl _ _)
    have HTX := Aside0.mk HT.out
    go_region_held3 (fun w' => Below w4.heap.size w4 w') (first | assumption | (simp; done)) (first
      | (go_at_call 41; go_loud ((with_reducible refine (text_make _).mono ?_); rintro r w5 ⟨bf, bt, bk, tb, t1, t2, rfl, hf, hb5⟩; have hb5' : Below w4.heap.size w4 w5 := below_step hbd hb5; have HF5 := Aside0.mk hf; simp only [textV]; clear hf hb5))
      | (go_at_call 40; go_loud (refine (enc_S _ bf bt bk tb t1 t2 (strOfNums l0) HF5.out (by rw [strOf_size]; omega)).mono ?_; rw [HTX.out]; rintro r w6 ⟨A6, c6, rfl, hC6, hl6, hb6⟩; have hb6' : Below w4.heap.size w4 w6 := below_step hb5' hb6; have HC6 := Aside0.mk hC6; have HL6 := Aside0.mk hl6; clear hC6 hl6 hb6)))
    have HB6 := Aside0.mk (below_step HB4.out hb6')
    have HC7 := Aside0.mk (Kd.C_below HC4.out hb6')
    have HX7 := Aside0.mk (Kd.C_below HX4.out hb6')
    have HO6 := Aside0.mk (HO4.out.below hb6')
    clear hb5' hb6' hbd HTX HF5 hcv HC4 HX4 HO4 HB4
    go_wp2_with fail
    refine (pianolalaw01_lives.calls true _ rfl).mono ?_
    rintro r w7 ⟨rfl, hb7⟩
    have HB7 := Aside0.mk (below_step HB6.out hb7)
    have HC8 := Aside0.mk (Kd.C_below HC7.out hb7)
    have HX8 := Aside0.mk (Kd.C_below HX7.out hb7)
    have HD8 := Aside0.mk (Kd.C_below HC6.out hb7)
    have hO7 := HO6.out.below hb7
    clear hb7 HB6 HC7 HX7 HC6 HO6
    rcases HCS.out with ⟨cs, q0, rfl, rfl, q1, q2⟩ | ⟨rfl, rfl⟩
    · have Q0 := Aside0.mk q0
      have Q1 := Aside0.mk q1
      have Q2 := Aside0.mk q2
      clear q0 q1 q2 HS HE HT HCS
      obtain ⟨A3, c3, hv3⟩ := Kd.R_slice hO7.own
      subst hv3
      have HO7 := Aside0.mk hO7
      clear hO7
      dsimp only at HX8 HD8 HXL HL6 HO7 ⊢
      go_wp2_with fail
      with_reducible refine (why_run _ _ _ _ _ _ HO7.out).mono ?_
      rintro r w8 ⟨rfl, rfl⟩
      go_wp2_with fail
      refine (blob_make _).mono ?_
      rintro r w9 ⟨bb, e1, e2, rfl, hf, hb9⟩
      have HF := Aside0.mk hf
      have HB9 := Aside0.mk (below_step HB7.out hb9)
      have HC9 := Aside0.mk (Kd.C_below HC8.out hb9)
      have HX9 := Aside0.mk (Kd.C_below HX8.out hb9)
      have HD9 := Aside0.mk (Kd.C_below HD8.out hb9)
      have HO9 := Aside0.mk (HO7.out.below hb9)
      clear hf hb9 HB7 HC8 HX8 HD8 HO7
      simp only [blobV]
      go_wp2_with fail
      have h1 := dec_B w9 bb e1 e2 HF.out A4 c4 cs HX9.out HXL.out Q0.out
      rw [Q1.out] at h1
      refine h1.mono ?_
      rintro r w10 ⟨v10, rfl, hR10, hb10⟩
      obtain ⟨A10, c10, hv10, _, hZ10⟩ := Kd.R_reads hR10
      subst hv10
      have HZ10 := Aside0.mk hZ10
      have HB10 := Aside0.mk (below_step HB9.out hb10)
      have HC10 := Aside0.mk (Kd.C_below HC9.out hb10)
      have HX10 := Aside0.mk (Kd.C_below HX9.out hb10)
      have HD10 := Aside0.mk (Kd.C_below HD9.out hb10)
      have HO10 := Aside0.mk (HO9.out.below hb10)
      clear h1 hZ10 hR10 hb10 HF HB9 HC9 HX9 HD9 HO9
      dsimp only
      go_wp2_with fail
      refine (text_make _).mono ?_
      rintro r w9 ⟨bf, bt, bk, tb, t1, t2, rfl, hf, hb9⟩
      have HF := Aside0.mk hf
      have HB9 := Aside0.mk (below_step HB10.out hb9)
      have HC9 := Aside0.mk (Kd.C_below HC10.out hb9)
      have HX9 := Aside0.mk (Kd.C_below HX10.out hb9)
      have HD9 := Aside0.mk (Kd.C_below HD10.out hb9)
      have HZ9 := Aside0.mk (Kd.C_below HZ10.out hb9)
      have HO9 := Aside0.mk (HO10.out.below hb9)
      clear hf hb9 HB10 HC10 HX10 HD10 HO10 HZ10
      simp only [textV]
      go_wp2_with fail
      have h1 := dec_S w9 bf bt bk tb t1 t2 HF.out A6 c6 cs HD9.out HL6.out Q0.out
      rw [Q2.out] at h1
      refine h1.mono ?_
      rintro r w11 ⟨v11, rfl, rfl, hb10⟩
      have HB11 := Aside0.mk (below_step HB9.out hb10)
      have hC11 := Kd.C_below HC9.out hb10
      have hX11 := Kd.C_below HX9.out hb10
      have hD11 := Kd.C_below HD9.out hb10
      have hZ11 := Kd.C_below HZ9.out hb10
      have hO11 := HO9.out.below hb10
      have d0 : w11.cell? ⟨w.heap.size, 0, none⟩ = some (.slice A3 cs.length c3) := blk_cell hO11.blk 0
      have v0 : ∀ nq, (convert 40 9 (.slice A0 l0.length c0)).run Try.prog (w11.drewN nq) = .ok (.string (strOfNums l0)) (w11.drewN nq) := fun nq => Kd.C_string Try.underlying40 Try.underlying5 Try.underlying9 (Kd.C_drewN (Kd.C_below HR.out HB11.out) nq)
      have v1 : ∀ nq, (convert 40 9 (.slice A2 l0.length c2)).run Try.prog (w11.drewN nq) = .ok (.string (strOfNums l0)) (w11.drewN nq) := fun nq => Kd.C_string Try.underlying40 Try.underlying5 Try.underlying9 (Kd.C_drewN hC11 nq)
      have v2 : ∀ nq, (convert 40 9 (.slice A4 cs.length c4)).run Try.prog (w11.drewN nq) = .ok (.string (strOfNums cs)) (w11.drewN nq) := fun nq => Kd.C_string Try.underlying40 Try.underlying5 Try.underlying9 (Kd.C_drewN hX11 nq)
      have v3 : ∀ nq, (convert 40 9 (.slice A6 cs.length c6)).run Try.prog (w11.drewN nq) = .ok (.string (strOfNums cs)) (w11.drewN nq) := fun nq => Kd.C_string Try.underlying40 Try.underlying5 Try.underlying9 (Kd.C_drewN hD11 nq)
      have v4 : ∀ nq, (convert 40 9 (.slice A10 l0.length c10)).run Try.prog (w11.drewN nq) = .ok (.string (strOfNums l0)) (w11.drewN nq) := fun nq => Kd.C_string Try.underlying40 Try.underlying5 Try.underlying9 (Kd.C_drewN hZ11 nq)
      have v5 : ∀ nq, (convert 40 9 (.slice A3 cs.length c3)).run Try.prog (w11.drewN nq) = .ok (.string (strOfNums cs)) (w11.drewN nq) := fun nq => Kd.C_string Try.underlying40 Try.underlying5 Try.underlying9 (Kd.C_drewN (Kd.R_reads' hO11.own).2.2 nq)
      clear h1 hb10 hC11 hX11 hD11 hZ11 hO11 HF HB9 HC9 HX9 HD9 HO9 HZ9 Q0 Q1 Q2
      dsimp only
      go_upto_region 12 with (fail)
      go_quiet (fail)
      have HB' := Aside0.mk (below_dN HB11.out nq)
      go_wp2_with fail
      go_ret
      exact ⟨rfl, HB'.out⟩
    · have HO7 := Aside0.mk hO7
      clear hO7 HS HE HT HCS
      dsimp only at HO7 ⊢
      go_wp2_with fail
      with_reducible refine (why_run _ _ _ _ _ _ HO7.out).mono ?_
      rintro r w8 ⟨rfl, rfl⟩
      go_wp2_with fail
      go_ret
      exact ⟨rfl, HB7.out⟩
  refine key _ _ rfl rfl ?_ ?_
  · rw [encR_text _ HOK.out.1, encR_blob]
  · by_cases h : l0.length ≤ 65536
    · refine .inl ⟨leB (l0.length : Int) 4 ++ l0, blob_ok l0 HOK.out h, ?_, ?_, decR_blob l0 h, decR_text l0 h⟩
      · rw [blobS_is, if_pos h]
      · rw [encR_blob, if_pos h]
    · refine .inr ⟨?_, ?_⟩
      · rw [blobS_is, if_neg h]
      · rw [encR_blob, if_neg h]

end Go.Proofs.Ytdlkkjfbbeffbaa.P
