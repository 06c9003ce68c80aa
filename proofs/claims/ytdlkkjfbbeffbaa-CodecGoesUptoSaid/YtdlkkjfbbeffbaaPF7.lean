/- Ytdlkkjfbbeffbaa: what Go functions come to, and that they do: walks, printed by a program of this session or typed by hand; no statement of the seat stands here. -/
import Derived.Test.YtdlkkjfbbeffbaaP0
import Derived.Test.YtdlkkjfbbeffbaaPF16
import Derived.BigQuiet
import Derived.Test.YtdlkkjfbbeffbaaCodecL
import Derived.Test.YtdlkkjfbbeffbaaCodecNone
import Derived.Test.YtdlkkjfbbeffbaaCodecS
import Derived.Test.YtdlkkjfbbeffbaaPF16
namespace Go.Proofs.Ytdlkkjfbbeffbaa.P
open Go.RowKit Go.Proofs.YtdlkkjfbbeffbaaW.PrintWords Go.Proofs.YtdlkkjfbbeffbaaW.PrintLast Go.Proofs.YtdlkkjfbbeffbaaW.PrintMore
attribute [local go_sem] max2_int min2_int max_two min_two max_three min_three max_four min_four   -- for this text's walks alone
set_option linter.unusedVariables false
set_option linter.unusedSimpArgs false


/-! ### pianolalaw01_CodecGoes: function 7 -/
-- IMPORT Derived.BigQuiet
-- IMPORT Derived.Test.YtdlkkjfbbeffbaaCodecNone
-- IMPORT Derived.Test.YtdlkkjfbbeffbaaCodecS
-- IMPORT Derived.Test.YtdlkkjfbbeffbaaCodecL
-- IMPORT Derived.Test.YtdlkkjfbbeffbaaPF16
/-- What the law asks of its inputs; the length is what the bound gives. -/
def pianolalaw01_CodecGoes.f (l0 : List Int) (a1 : Int) : Option Bool := if okBytes l0 = true ∧ l0.length ≤ 1048576 then some true else none
theorem rd_mem (l : List Int) (i : Nat) (h : i < l.length) : rd l (i : Int) ∈ l := by
  unfold rd
  rw [Int.toNat_natCast, List.getD_eq_getElem?_getD, List.getElem?_eq_getElem h]
  exact List.getElem_mem h
theorem or_two (p q : Int) (hp0 : 0 ≤ p) (hp1 : p < 256) (hq0 : 0 ≤ q) (hq1 : q < 256) : bits .or .i64 p (q * 256) = q * 256 + p := by
  have hw : ∀ n : Int, 0 ≤ n → n < 2 ^ 32 → IntKind.i64.wrap n = n := fun n h0 h1 => by rw [IntKind.wrap_i64]; omega
  have hc := bits_join .i64 32 (by decide) hw 8 (q * 256) p (by omega) (Int.mul_emod_left _ _) (by omega) hp0 (by omega) (by omega)
  rw [← hc]
  simp only [bits, BitVec.or_comm]
theorem goesL_len (most : Int) (xs : List Int) : (goesL most xs).length ≤ xs.length ∧ ((goesL most xs).length = xs.length ∨ ((goesL most xs).length : Int) = most) := by
  unfold goesL
  split
  · rw [List.length_take]
    omega
  · exact ⟨Nat.le_refl _, .inl rfl⟩
theorem goesL_rd (most : Int) (xs : List Int) (k : Nat) (h : k < (goesL most xs).length) : rd (goesL most xs) (k : Int) = rd xs (k : Int) := by
  unfold goesL at h ⊢
  split
  · rename_i h1
    rw [if_pos h1, List.length_take] at h
    unfold rd
    rw [Int.toNat_natCast, List.getD_eq_getElem?_getD, List.getD_eq_getElem?_getD, List.getElem?_take_of_lt (by omega)]
  · rfl
set_option maxRecDepth 100000 in
set_option maxHeartbeats 4000000 in
theorem pianolalaw01_CodecGoes.calls (A0 : Option Addr) (c0 : Nat) (l0 : List Int) (a1 : Int) (r : Bool) (w : World) (hr0 : Kd.C (Kd.int .u8) w A0 l0.length l0) (hc0 : l0.length ≤ c0) (h : pianolalaw01_CodecGoes.f l0 a1 = some r) :
    Calls Try.prog 7 #[.slice A0 l0.length c0, .int .i64 a1] w fun e w' => e = .returned (.bool r) ∧ Below w.heap.size w w' := by
  have hok : okBytes l0 = true ∧ l0.length ≤ 1048576 := by
    unfold pianolalaw01_CodecGoes.f at h
    split at h
    · assumption
    · cases h
  obtain rfl : r = true := by
    unfold pianolalaw01_CodecGoes.f at h
    rw [if_pos hok] at h
    exact (Option.some.inj h).symm
  have HOK := Aside0.mk (okBytes_is hok.1)
  have hmx := hok.2
  have HR := Aside0.mk hr0
  clear h hok hr0
  obtain ⟨xs, hxs⟩ : ∃ xs, xs = wordsL l0 := ⟨_, rfl⟩
  obtain ⟨ys, hys⟩ : ∃ ys, ys = goesL a1 xs := ⟨_, rfl⟩
  have HXS := Aside0.mk hxs
  have HYS := Aside0.mk hys
  have HXL := Aside0.mk (show xs.length = l0.length / 2 by rw [hxs, wordsL_len])
  have hyl : ys.length ≤ xs.length := by rw [hys]; exact (goesL_len a1 xs).1
  have HYL := Aside0.mk (show ys.length = xs.length ∨ (ys.length : Int) = a1 by rw [hys]; exact (goesL_len a1 xs).2)
  clear hxs hys
  go_enter Try.func7, Try.ntmps7
  go_wp2_with fail
  refine (goes_run A0 c0 l0 (-1) _ HR.out hc0 HOK.out hmx).mono ?_
  rintro e w1 ⟨va, rfl, hRa, hB1⟩
  rw [show goesL (-1) (wordsL l0) = xs from by rw [HXS.out]; rfl] at hRa
  obtain ⟨Aa, ca, rfl, hla, hCa⟩ := Kd.R_reads hRa
  have HB1 := Aside0.mk hB1
  have HCa := Aside0.mk hCa
  clear hB1 hRa hCa
  go_wp2_with fail
  refine (goes_run A0 c0 l0 a1 _ (Kd.C_below HR.out HB1.out) hc0 HOK.out hmx).mono ?_
  rintro e w2 ⟨vc, rfl, hRc, hB2⟩
  rw [show goesL a1 (wordsL l0) = ys from by rw [HYS.out, HXS.out]] at hRc
  obtain ⟨Ac, cc, rfl, hlc, hCc⟩ := Kd.R_reads hRc
  have HB2 := Aside0.mk hB2
  have HCc := Aside0.mk hCc
  clear hB2 hRc hCc
  go_wp2_with fail
  refine (pianolalaw01_lives.calls true _ rfl).mono ?_
  rintro e w3 ⟨rfl, hB3⟩
  have HW3 := Aside0.mk (show Below w.heap.size w w3 from below_step (below_step HB1.out HB2.out) hB3)
  have HC3a := Aside0.mk (Kd.C_below (Kd.C_below HCa.out HB2.out) hB3)
  have HC3c := Aside0.mk (Kd.C_below HCc.out hB3)
  have HR3 := Aside0.mk (Kd.C_below HR.out HW3.out)
  clear hB3 HB1 HB2 HCa HCc
  have hne : ((xs.length : Int) != (l0.length : Int) / 2) = false := by have h := HXL.out; simp; omega
  go_wp2_with fail
  clear hne
  go_loopw [9] (fun v9 wr => ∃ k : Nat, v9 = .int .i64 k ∧ k ≤ xs.length ∧ Below w3.heap.size w3 wr) (fun v9 _ => xs.length - (intOf v9).toNat)
  case atStart => exact ⟨0, rfl, Nat.zero_le _, Below.refl _ _⟩
  case round =>
    obtain ⟨k, rfl, hk, hb⟩ := hrel
    have HB := Aside0.mk hb
    clear hb
    by_cases hlt : k < xs.length
    · have h2k : 2 * k + 1 < l0.length := by have := HXL.out; omega
      have hca := Kd.C_below HC3a.out HB.out
      have hcb := Kd.C_below HR3.out HB.out
      obtain ⟨ad, rfl, q0⟩ := Kd.at_int hca (k : Int) (by omega) (by omega)
      obtain ⟨ae, rfl, q1⟩ := Kd.at_int hcb (2 * (k : Int)) (by omega) (by omega)
      obtain ⟨ae', he, q2⟩ := Kd.at_int hcb (2 * (k : Int) + 1) (by omega) (by omega)
      cases he
      clear hca hcb
      have hr1 := HOK.out.1 _ (rd_mem l0 (2 * k) (by omega))
      have hr2 := HOK.out.1 _ (rd_mem l0 (2 * k + 1) (by omega))
      have hx := wordsL_get l0 k h2k
      rw [← HXS.out] at hx
      obtain ⟨p, hp⟩ : ∃ p, p = rd l0 (2 * (k : Int)) := ⟨_, rfl⟩
      obtain ⟨q, hq⟩ : ∃ q, q = rd l0 (2 * (k : Int) + 1) := ⟨_, rfl⟩
      obtain ⟨x, hx0⟩ : ∃ x, x = rd xs (k : Int) := ⟨_, rfl⟩
      rw [show ((2 * k : Nat) : Int) = 2 * (k : Int) by omega, ← hp] at hr1 hx
      rw [show ((2 * k + 1 : Nat) : Int) = 2 * (k : Int) + 1 by omega, ← hq] at hr2 hx
      rw [← hp] at q1
      rw [← hq] at q2
      rw [← hx0] at q0 hx
      rw [Int.toNat_natCast] at q0
      have q1' : wr.cell? (ae.add (2 * k)) = some (.int .u8 p) := by rw [← q1, show (2 * (k : Int)).toNat = 2 * k by omega]
      have q2' : wr.cell? (ae.add (2 * k + 1)) = some (.int .u8 q) := by rw [← q2, show (2 * (k : Int) + 1).toNat = 2 * k + 1 by omega]
      have q2'' : wr.cell? ⟨ae.block, ae.off + (2 * k + 1), none⟩ = some (.int .u8 q) := by rw [← q2']; unfold Addr.add; rw [if_neg (by omega)]
      have hki : (k : Int) < 1048576 := by omega
      have w2k : IntKind.i64.wrap (2 * (k : Int)) = 2 * (k : Int) := by rw [IntKind.wrap_i64]; omega
      have w2k1 : IntKind.i64.wrap (2 * (k : Int) + 1) = 2 * (k : Int) + 1 := by rw [IntKind.wrap_i64]; omega
      have n2k : ((2 * k : Nat) : Int) = 2 * (k : Int) := by omega
      have b2k : 2 * (k : Int) < (l0.length : Int) := by omega
      have b2k1 : 2 * (k : Int) + 1 < (l0.length : Int) := by omega
      have z2k : 0 ≤ 2 * (k : Int) := by omega
      have z2k1 : 0 ≤ 2 * (k : Int) + 1 := by omega
      have wp : IntKind.i64.wrap p = p := by rw [IntKind.wrap_i64]; omega
      have wq : IntKind.i64.wrap q = q := by rw [IntKind.wrap_i64]; omega
      have wq2 : IntKind.i64.wrap (q * 256) = q * 256 := by rw [IntKind.wrap_i64]; omega
      have hor : bits .or .i64 p (q * 256) = x := by rw [or_two p q hr1.1 hr1.2 hr2.1 hr2.2, hx]; omega
      have HX := Aside0.mk hx
      clear hp hq hx
      by_cases hly : k < ys.length
      · have hcc := Kd.C_below HC3c.out HB.out
        obtain ⟨af, rfl, q3⟩ := Kd.at_int hcc (k : Int) (by omega) (by omega)
        rw [Int.toNat_natCast, show rd ys (k : Int) = x by rw [hx0, HYS.out]; exact goesL_rd a1 xs k (by rw [← HYS.out]; exact hly)] at q3
        clear hx0 hcc
        go_upto_region 8 with (fail)
        go_quiet (fail)
        have HB' := Aside0.mk (below_dN HB.out nq)
        go_wp2_with fail
        go_roundw
        case rel => exact ⟨k + 1, by go_num, by omega, HB'.out⟩
        case measure => simp [intOf]; omega
      · clear hx0
        have hly2 : ¬ (k : Int) < (ys.length : Int) := by omega
        have hly3 : decide ((k : Int) < (ys.length : Int)) = false := decide_eq_false hly2
        have hly4 : ys.length ≤ k := by omega
        clear hly
        go_upto_region 8 with (fail)
        go_quiet (fail)
        have HB' := Aside0.mk (below_dN HB.out nq)
        go_wp2_with fail
        go_roundw
        case rel => exact ⟨k + 1, by go_num, by omega, HB'.out⟩
        case measure => simp [intOf]; omega
    · obtain rfl : k = xs.length := by omega
      clear hlt
      have HBw := Aside0.mk (below_step HW3.out HB.out)
      have h := HYL.out
      by_cases hyx : ys.length = xs.length
      · have hyb : ((ys.length : Int) == (xs.length : Int)) = true := by rw [hyx]; exact beq_self_eq_true _
        clear h hyx
        go_wp2_with fail
        go_ret
        exact ⟨rfl, HBw.out⟩
      · have hyb : ((ys.length : Int) == (xs.length : Int)) = false := by simp; exact fun h => hyx (by omega)
        have hya : ((ys.length : Int) == a1) = true := by rw [show (ys.length : Int) = a1 from h.resolve_left hyx]; exact beq_self_eq_true _
        clear h hyx
        go_wp2_with fail
        go_ret
        exact ⟨rfl, HBw.out⟩

end Go.Proofs.Ytdlkkjfbbeffbaa.P
