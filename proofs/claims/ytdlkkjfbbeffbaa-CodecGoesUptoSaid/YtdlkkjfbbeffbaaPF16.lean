/- Ytdlkkjfbbeffbaa: what Go functions come to, and that they do: walks, printed by a program of this session or typed by hand; no statement of the seat stands here. -/
import Derived.Test.YtdlkkjfbbeffbaaP0
import Derived.Test.YtdlkkjfbbeffbaaCodecI
namespace Go.Proofs.Ytdlkkjfbbeffbaa.P
open Go.RowKit Go.Proofs.YtdlkkjfbbeffbaaW.PrintWords Go.Proofs.YtdlkkjfbbeffbaaW.PrintLast Go.Proofs.YtdlkkjfbbeffbaaW.PrintMore
attribute [local go_sem] max2_int min2_int max_two min_two max_three min_three max_four min_four   -- for this text's walks alone
set_option linter.unusedVariables false
set_option linter.unusedSimpArgs false


/-! ### pianolalaw01_lives: function 16 -/
-- IMPORT Derived.Test.YtdlkkjfbbeffbaaCodecI
open Go.Proofs.Ytdlkkjfbbeffbaa.P in
def pianolalaw01_lives.f : Option Bool := some true
theorem lv1 : encR (manyS (fun s x => numS s 1 255 x) ([], 0) [7, 8]) = ([2, 0, 7, 8], 0) := by kernel_rfl
theorem lv2 : decR (fun s => lowI s ((2 : Nat) : Int) 65535) 0 [2, 1] = (258, 0) := by kernel_rfl
theorem lv3 : encR (numS ([], 0) 2 65535 65536) = ([], 1) := by kernel_rfl
theorem lv4 : decR flagG false [2] = (false, 10) := by kernel_rfl
theorem C_new (k : IntKind) (e : TypeId) (w : World) (xs : List Int) (hn : xs.length ≤ 100) : Kd.C (Kd.int k) (w.alloc (.cells (encs (Value.int k) xs).toArray e)) (some ⟨w.heap.size, 0, none⟩) xs.length xs := by
  have h := own_lit_of (enc := Value.int k) w w.heap.size e xs (Nat.le_refl _) (by omega)
  obtain ⟨A, c, he, hr⟩ := own_reads_of (d := (0 : Int)) h
  simp only [Value.slice.injEq] at he
  obtain ⟨rfl, _, _⟩ := he
  exact Kd.C_of_reads (h1 := fun _ => rfl) hr
set_option maxRecDepth 100000 in
set_option maxHeartbeats 1000000 in
theorem pianolalaw01_lives.calls (r : Bool) (w : World) (h : pianolalaw01_lives.f = some r) : Calls Try.prog 16 #[] w fun e w' => e = .returned (.bool r) ∧ Below w.heap.size w w' := by
  obtain rfl := Option.some.inj h
  clear h
  go_enter Try.func16, Try.ntmps16
  go_wp2_with fail
  refine (byte_run w).mono ?_
  rintro r w1 ⟨b1, b2, rfl, hf, hb⟩
  have HB := Aside0.mk hb
  have HF := Aside0.mk hf
  clear hf hb
  simp only [numV]
  go_wp2_with fail
  refine (many_I _ _ _ _ rfl rfl w1).mono ?_
  rintro r w2 ⟨bc, bf, c1, c2, rfl, hM, hb⟩
  have HM := Aside0.mk (show ManyF w2 bc bf c1 c2 37 (numV b1 b2) from hM)
  have HF2 := Aside0.mk (HF.out.below hb)
  have HB2 := Aside0.mk (below_step HB.out hb)
  clear hM hb HF HB
  simp only [manyV]
  go_wp2_with fail
  have hbl : Below w2.heap.size w2 (w2.alloc (.cells #[.int .i64 7, .int .i64 8] 3)) := below_alloc (Below.refl _ _) _
  have h1 := enc_L (w2.alloc (.cells #[.int .i64 7, .int .i64 8] 3)) bc bf c1 c2 b1 b2 1 255 (some ⟨w2.heap.size, 0, none⟩) 2 [7, 8] (HM.out.below hbl) (HF2.out.below hbl) (C_new .i64 3 w2 [7, 8] (by decide))
  rw [lv1] at h1
  refine h1.mono ?_
  rintro r w3 ⟨A3, cc3, rfl, hC3, hl3, hb3⟩
  have HC3 := Aside0.mk hC3
  have HB3 := Aside0.mk (below_step (HB2.out.alloc HB2.out.size (.cells #[.int .i64 7, .int .i64 8] 3)) hb3)
  clear h1 hC3 hl3 hb3 hbl HM HF2 HB2
  dsimp only [List.length_cons, List.length_nil]
  go_wp2_with fail
  refine (short_run w3).mono ?_
  rintro r w4 ⟨s1, s2, rfl, hf, hb⟩
  have HF := Aside0.mk hf
  have HC4 := Aside0.mk (Kd.C_below HC3.out hb)
  have HB4 := Aside0.mk (below_step HB3.out hb)
  clear hf hb HC3 HB3
  simp only [numV]
  go_wp2_with fail
  have hbl : Below w4.heap.size w4 (w4.alloc (.cells #[.int .u8 2, .int .u8 1] 5)) := below_alloc (Below.refl _ _) _
  have h1 := dec_I (w4.alloc (.cells #[.int .u8 2, .int .u8 1] 5)) s1 s2 2 65535 (HF.out.below hbl) (some ⟨w4.heap.size, 0, none⟩) 2 [2, 1] (C_new .u8 5 w4 [2, 1] (by decide)) (by decide) ⟨by unfold okB; decide, by decide⟩
  rw [lv2] at h1
  refine h1.mono ?_
  rintro r w5 ⟨v, rfl, rfl, hb5⟩
  have HC5 := Aside0.mk (Kd.C_below (Kd.C_below HC4.out hbl) hb5)
  have HB5 := Aside0.mk (below_step (HB4.out.alloc HB4.out.size (.cells #[.int .u8 2, .int .u8 1] 5)) hb5)
  clear h1 hb5 hbl HF HC4 HB4
  dsimp only
  go_wp2_with fail
  refine (short_run w5).mono ?_
  rintro r w6 ⟨s1, s2, rfl, hf, hb⟩
  have HF := Aside0.mk hf
  have HC6 := Aside0.mk (Kd.C_below HC5.out hb)
  have HB6 := Aside0.mk (below_step HB5.out hb)
  clear hf hb HC5 HB5
  simp only [numV]
  go_wp2_with fail
  have h1 := enc_I w6 s1 s2 2 65535 65536 HF.out
  rw [lv3] at h1
  refine h1.mono ?_
  rintro r w7 ⟨A7, cc7, rfl, _, _, hb7⟩
  have HC7 := Aside0.mk (Kd.C_below HC6.out hb7)
  have HB7 := Aside0.mk (below_step HB6.out hb7)
  clear h1 hb7 HF HC6 HB6
  dsimp only [List.length_nil]
  go_wp2_with fail
  refine (flag_make w7).mono ?_
  rintro r w8 ⟨bf, bt, bk, a1, a2, rfl, hf, hb⟩
  have HF := Aside0.mk hf
  have HC8 := Aside0.mk (Kd.C_below HC7.out hb)
  have HB8 := Aside0.mk (below_step HB7.out hb)
  clear hf hb HC7 HB7
  simp only [flagV]
  go_wp2_with fail
  have hbl : Below w8.heap.size w8 (w8.alloc (.cells #[.int .u8 2] 5)) := below_alloc (Below.refl _ _) _
  have h1 := dec_Bo (w8.alloc (.cells #[.int .u8 2] 5)) bf bt bk a1 a2 (HF.out.below hbl) (some ⟨w8.heap.size, 0, none⟩) 1 [2] (C_new .u8 5 w8 [2] (by decide)) (by decide) ⟨by unfold okB; decide, by decide⟩
  rw [lv4] at h1
  refine h1.mono ?_
  rintro r w9 ⟨v, rfl, rfl, hb9⟩
  have HC9 := Aside0.mk (Kd.C_below (Kd.C_below HC8.out hbl) hb9)
  have HB9 := Aside0.mk (below_step (HB8.out.alloc HB8.out.size (.cells #[.int .u8 2] 5)) hb9)
  clear h1 hb9 hbl HF HC8 HB8
  dsimp only
  have hcv := Kd.C_string (P := Try.prog) (A := A3) (c := cc3) Try.underlying40 Try.underlying5 Try.underlying9 HC9.out
  rw [show strOfNums [2, 0, 7, 8] = (⟨#[2, 0, 7, 8]⟩ : ByteArray) by kernel_rfl] at hcv
  dsimp only [List.length_cons, List.length_nil] at hcv
  go_wp2_with fail
  go_ret
  exact ⟨rfl, HB9.out⟩

end Go.Proofs.Ytdlkkjfbbeffbaa.P
