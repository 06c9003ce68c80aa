/- Ytdlkkjfbbeffbaa: what Go functions come to, and that they do: walks, printed by a program of this session or typed by hand; no statement of the seat stands here. -/
import Derived.Test.YtdlkkjfbbeffbaaP0
import Derived.Test.YtdlkkjfbbeffbaaPF16
import Derived.Test.YtdlkkjfbbeffbaaCodecNone
import Derived.Test.YtdlkkjfbbeffbaaCodecPl4
import Derived.Test.YtdlkkjfbbeffbaaCodecS
import Derived.Test.YtdlkkjfbbeffbaaPF16
namespace Go.Proofs.Ytdlkkjfbbeffbaa.P
open Go.RowKit Go.Proofs.YtdlkkjfbbeffbaaW.PrintWords Go.Proofs.YtdlkkjfbbeffbaaW.PrintLast Go.Proofs.YtdlkkjfbbeffbaaW.PrintMore
attribute [local go_sem] max2_int min2_int max_two min_two max_three min_three max_four min_four   -- for this text's walks alone
set_option linter.unusedVariables false
set_option linter.unusedSimpArgs false


/-! ### pianolalaw01_CodecApart: function 6 -/
-- IMPORT Derived.Test.YtdlkkjfbbeffbaaCodecPl4
-- IMPORT Derived.Test.YtdlkkjfbbeffbaaCodecNone
-- IMPORT Derived.Test.YtdlkkjfbbeffbaaCodecS
-- IMPORT Derived.Test.YtdlkkjfbbeffbaaPF16
def pianolalaw01_CodecApart.f (l0 l1 : List Int) : Option Bool := if okInts l0 = true ∧ okInts l1 = true then some true else none
set_option maxRecDepth 100000 in
set_option maxHeartbeats 8000000 in
theorem pianolalaw01_CodecApart.calls (A0 : Option Addr) (c0 : Nat) (l0 : List Int) (A1 : Option Addr) (c1 : Nat) (l1 : List Int) (r : Bool) (w : World) (hr0 : Kd.C (Kd.int .i64) w A0 l0.length l0) (hc0 : l0.length ≤ c0) (hr1 : Kd.C (Kd.int .i64) w A1 l1.length l1) (hc1 : l1.length ≤ c1) (h : pianolalaw01_CodecApart.f l0 l1 = some r) :
    Calls Try.prog 6 #[.slice A0 l0.length c0, .slice A1 l1.length c1] w fun e w' => e = .returned (.bool r) ∧ Below w.heap.size w w' := by
  have hok : okInts l0 = true ∧ okInts l1 = true := by
    unfold pianolalaw01_CodecApart.f at h
    split at h
    · assumption
    · cases h
  obtain rfl : r = true := by
    unfold pianolalaw01_CodecApart.f at h
    rw [if_pos hok] at h
    exact (Option.some.inj h).symm
  have HI0 := Aside0.mk (okInts_is hok.1)
  have HI1 := Aside0.mk (okInts_is hok.2)
  have HR0 := Aside0.mk hr0
  have HR1 := Aside0.mk hr1
  have hm0 := Kd.C_max hr0
  have hm1 := Kd.C_max hr1
  clear h hok hr0 hr1
  have key : ∀ (xs ys : List Int) (e g : Int), encR (manyS (fun s x => numS s 8 0 x) ([], 0) l0) = (xs, e) → encR (manyS (fun s x => numS s 8 0 x) ([], 0) l1) = (ys, g) → ((4096 < l0.length ∧ e = 1) ∨ (l0.length ≤ 4096 ∧ 4096 < l1.length ∧ e = 0 ∧ g = 1) ∨ (l0.length ≤ 4096 ∧ l1.length ≤ 4096 ∧ e = 0 ∧ g = 0 ∧ xs = codeI l0 ∧ ys = codeI l1)) →
      Calls Try.prog 6 #[.slice A0 l0.length c0, .slice A1 l1.length c1] w fun e w' => e = .returned (.bool true) ∧ Below w.heap.size w w' := by
    intro xs ys e g hx hy hcase
    have HX := Aside0.mk hx
    have HY := Aside0.mk hy
    have HCS := Aside0.mk hcase
    clear hx hy hcase
    go_enter Try.func6, Try.ntmps6
    go_wp2_with fail
    refine (int_run w).mono ?_
    rintro r w1 ⟨b1, b2, rfl, hf, hb⟩
    have HB := Aside0.mk hb
    have HF := Aside0.mk hf
    clear hf hb
    simp only [numV]
    go_wp2_with fail
    refine (many_I _ _ _ _ rfl rfl w1).mono ?_
    rintro r w2 ⟨bc, bf, k1, k2, rfl, hM, hb⟩
    have hbl : Below w2.heap.size w2 (w2.alloc (.cells (manyV bc bf) 32)) := below_alloc (Below.refl _ _) _
    have HM := Aside0.mk ((show ManyF w2 bc bf k1 k2 37 (numV b1 b2) from hM).below hbl)
    have HF2 := Aside0.mk ((HF.out.below hb).below hbl)
    have HB2 := Aside0.mk (below_step (below_step HB.out hb) hbl)
    have HN := Aside0.mk (blk_new w2 (.cells (manyV bc bf) 32))
    obtain ⟨p, hp⟩ : ∃ p, p = w2.heap.size := ⟨_, rfl⟩
    obtain ⟨w3, hw3⟩ : ∃ w3, w3 = w2.alloc (.cells (manyV bc bf) 32) := ⟨_, rfl⟩
    rw [← hw3] at HM HF2 HB2 HN
    rw [← hp] at HN
    have HW := Aside0.mk (And.intro hp hw3)
    clear hM hb HF HB hbl hp hw3
    simp only [manyV]
    go_wp2_with fail
    rw [show w2.alloc (.cells #[.func (.func 56) #[] #[.pointer (some ⟨bc, 0, none⟩), .pointer (some ⟨bf, 0, none⟩)], .func (.func 57) #[] #[.pointer (some ⟨bc, 0, none⟩), .pointer (some ⟨bf, 0, none⟩)]] 32) = w3 from HW.out.2.symm]
    try rw [← HW.out.1]
    have h1 := enc_L w3 bc bf k1 k2 b1 b2 8 0 A0 c0 l0 HM.out HF2.out (Kd.C_below HR0.out HB2.out)
    rw [HX.out] at h1
    refine h1.mono ?_
    rintro r w4 ⟨A4, c4, rfl, hC4, hl4, hb4⟩
    have hn4 := blk_below HN.out hb4
    have d0 : w4.cell? ⟨p, 0, none⟩ = some (.func (.func 56) #[] #[.pointer (some ⟨bc, 0, none⟩), .pointer (some ⟨bf, 0, none⟩)]) := blk_cell hn4 0
    have d1 : w4.cell? ⟨p, 1, none⟩ = some (.func (.func 57) #[] #[.pointer (some ⟨bc, 0, none⟩), .pointer (some ⟨bf, 0, none⟩)]) := blk_cell hn4 1
    have HC4 := Aside0.mk hC4
    have HL4 := Aside0.mk hl4
    have HM4 := Aside0.mk (HM.out.below hb4)
    have HF4 := Aside0.mk (HF2.out.below hb4)
    have HB4 := Aside0.mk (below_step HB2.out hb4)
    clear h1 hn4 hC4 hl4 hb4 HM HF2 HB2 HN
    dsimp only
    go_wp2_with fail
    have h1 := enc_L w4 bc bf k1 k2 b1 b2 8 0 A1 c1 l1 HM4.out HF4.out (Kd.C_below HR1.out HB4.out)
    rw [HY.out] at h1
    refine h1.mono ?_
    rintro r w5 ⟨A5, c5, rfl, hC5, hl5, hb5⟩
    have HC5 := Aside0.mk hC5
    have HL5 := Aside0.mk hl5
    have HX5 := Aside0.mk (Kd.C_below HC4.out hb5)
    have HB5 := Aside0.mk (below_step HB4.out hb5)
    clear h1 hC5 hl5 hb5 d0 d1 HC4 HM4 HF4 HB4
    dsimp only
    go_wp2_with fail
    refine (pianolalaw01_lives.calls true _ rfl).mono ?_
    rintro r w6 ⟨rfl, hb6⟩
    have HC6 := Aside0.mk (Kd.C_below HX5.out hb6)
    have HD6 := Aside0.mk (Kd.C_below HC5.out hb6)
    have HB6 := Aside0.mk (below_step HB5.out hb6)
    clear hb6 HC5 HX5 HB5
    rcases HCS.out with ⟨q0, rfl⟩ | ⟨q0, q1, rfl, rfl⟩ | ⟨q0, q1, rfl, rfl, rfl, rfl⟩
    · have q2 : decide ((4096 : Int) < (l0.length : Int)) = true := decide_eq_true (by omega)
      clear HCS
      go_wp2_with fail
      refine (pianolalaw01_lives.calls true _ rfl).mono ?_
      rintro r w7 ⟨rfl, hb7⟩
      have HB7 := Aside0.mk (below_step HB6.out hb7)
      clear hb7
      go_wp2_with fail
      go_ret
      exact ⟨rfl, HB7.out⟩
    · clear HCS
      go_wp2_with fail
      refine (pianolalaw01_lives.calls true _ rfl).mono ?_
      rintro r w7 ⟨rfl, hb7⟩
      have HB7 := Aside0.mk (below_step HB6.out hb7)
      clear hb7
      go_wp2_with fail
      go_ret
      exact ⟨rfl, HB7.out⟩
    · have HIN := Aside0.mk (codeI_inj l0 l1 q0 q1 HI0.out HI1.out)
      have HO0 := Aside0.mk (codeI_ok l0)
      have HO1 := Aside0.mk (codeI_ok l1)
      have hcx : ∀ W, Below w6.heap.size w6 W → (convert 40 9 (.slice A4 (codeI l0).length c4)).run Try.prog W = .ok (.string (strOfNums (codeI l0))) W := fun W hW => Kd.C_string Try.underlying40 Try.underlying5 Try.underlying9 (Kd.C_below HC6.out hW)
      have HCX := Aside0.mk hcx
      have hcy : (codeI l0).length ≤ (codeI l1).length → ∀ W, Below w6.heap.size w6 W → (convert 40 9 (.slice A5 (codeI l0).length c5)).run Try.prog W = .ok (.string (strOfNums ((codeI l1).take (codeI l0).length))) W := by
        intro hle W hW
        have h := Kd.C_string (P := Try.prog) (c := c5) Try.underlying40 Try.underlying5 Try.underlying9 (Kd.C_of_reads (d := (0 : Int)) (h1 := fun _ => rfl) ((Kd.reads_of_C (Kd.C_below HD6.out hW)).take_ (codeI l0).length hle))
        exact h
      have HCY := Aside0.mk hcy
      obtain ⟨xs, hxs⟩ : ∃ xs, xs = codeI l0 := ⟨_, rfl⟩
      obtain ⟨ys, hys⟩ : ∃ ys, ys = codeI l1 := ⟨_, rfl⟩
      rw [← hxs] at HIN HC6 HO0 HCX HL4 HCY ⊢
      rw [← hys] at HIN HD6 HO1 HCY HL5 ⊢
      have HXY := Aside0.mk (And.intro hxs hys)
      clear hxs hys hcx hcy HX HY HCS
      have hts : xs.length ≤ ys.length → ∀ W, (Instr.slice 40 (.slice A5 ys.length c5) none (some (.int .i64 (xs.length : Int))) none).run Try.prog W = .ok (.slice A5 xs.length c5) W := by
        intro hle
        obtain ⟨i0, hi0, _, hs0, _⟩ := info_parts (show (Try.prog.info? 5).map (fun i => (i.zero, i.size, i.bytes)) = some (some (.int .u8 0), 1, 1) by kernel_rfl)
        obtain ⟨ht, _, _⟩ := print_take_of (P := Try.prog) (Value.int .u8) 0 40 5 .i64 Try.underlying40 hi0 hs0 A5 c5 ys (xs.length : Int) (by omega) (by omega) HL5.out
        rw [Int.toNat_natCast, show (ys.take xs.length).length = xs.length by rw [List.length_take]; omega] at ht
        exact ht
      have HTS := Aside0.mk hts
      clear hts
      have hl4 := HL4.out
      have hl5 := HL5.out
      have hsame0 : ((l0.length : Int) == (l1.length : Int)) = decide (l0.length = l1.length) := by
        by_cases h : l0.length = l1.length
        · rw [h]; simp
        · rw [decide_eq_false h, beq_eq_false_iff_ne]; omega
      by_cases hab : l0 = l1
      · as_aux_lemma =>
          subst hab
          have hys : ys = xs := by rw [HXY.out.1, HXY.out.2]
          subst hys
          have HCY2 := Aside0.mk (HCY.out (Nat.le_refl _))
          have ht2 := HTS.out (Nat.le_refl _)
          clear HTS
          rw [List.take_length] at HCY2
          clear HCY HXY HIN hsame0
          go_wp2_with fail
          go_loopw [10, 11] (fun v10 v11 wr => ∃ k : Nat, v10 = .bool true ∧ v11 = .int .i64 k ∧ k ≤ l0.length ∧ Below w6.heap.size w6 wr) (fun _ v11 _ => l0.length - (intOf v11).toNat)
          case atStart => exact ⟨0, by first | rfl | simp, rfl, Nat.zero_le _, Below.refl _ _⟩
          case round =>
            obtain ⟨k, rfl, rfl, hk, hb⟩ := hrel
            have HB := Aside0.mk hb
            clear hb
            by_cases hlt : k < l0.length
            · have hx0 := Kd.C_below (Kd.C_below HR0.out HB6.out) HB.out
              have hx1 := Kd.C_below (Kd.C_below HR1.out HB6.out) HB.out
              obtain ⟨ad, rfl, hc⟩ := Kd.at_int hx0 (k : Int) (by omega) (by omega)
              obtain ⟨ae, rfl, hd⟩ := Kd.at_int hx1 (k : Int) (by omega) (by omega)
              clear hx0 hx1
              rw [Int.toNat_natCast] at hc hd
              go_upto_region 10 with (fail)
              go_quiet (fail)
              have HB' := Aside0.mk (below_dN HB.out nq)
              go_wp2_with fail
              go_roundw
              case rel => exact ⟨k + 1, by first | rfl | simp, by go_num, by omega, HB'.out⟩
              case measure => simp [intOf]; omega
            · obtain rfl : k = l0.length := by omega
              have hv : ∀ nq, (convert 40 9 (.slice A4 ys.length c4)).run Try.prog (wr.drewN nq) = .ok (.string (strOfNums ys)) (wr.drewN nq) := fun nq => HCX.out _ (below_dN HB.out nq)
              have hu : ∀ nq, (convert 40 9 (.slice A5 ys.length c5)).run Try.prog (wr.drewN nq) = .ok (.string (strOfNums ys)) (wr.drewN nq) := fun nq => HCY2.out _ (below_dN HB.out nq)
              go_upto_region 11 with (fail)
              go_quiet (fail)
              have HB' := Aside0.mk (below_dN HB.out nq)
              go_wp2_with fail
              go_ret
              exact ⟨rfl, below_step HB6.out HB'.out⟩
      · as_aux_lemma =>
          have hbeg : xs.length ≤ ys.length → ((strOfNums (ys.take xs.length)).toList == (strOfNums xs).toList) = false := fun hle => strOf_ne (HO1.out.take _) HO0.out (fun e => hab (HIN.out e))
          have HBG := Aside0.mk hbeg
          clear hbeg
          go_wp2_with fail
          go_loopw [10, 11] (fun v10 v11 wr => ∃ k : Nat, v10 = .bool (decide (l0.length = l1.length ∧ l0.take k = l1.take k)) ∧ v11 = .int .i64 k ∧ k ≤ l0.length ∧ Below w6.heap.size w6 wr) (fun _ v11 _ => l0.length - (intOf v11).toNat)
          case atStart => exact ⟨0, by simp, rfl, Nat.zero_le _, Below.refl _ _⟩
          case round =>
            obtain ⟨k, rfl, rfl, hk, hb⟩ := hrel
            have HB := Aside0.mk hb
            clear hb
            by_cases hgo : k < l0.length ∧ l0.length = l1.length ∧ l0.take k = l1.take k
            · have hstep := take_step l0 l1 k hgo.1 (by omega) hgo.2.2
              have HST := Aside0.mk hstep
              clear hstep
              rw [decide_eq_true hgo.2]
              have hlt := hgo.1
              have hlt1 : k < l1.length := by have := hgo.2.1; omega
              have HLL := Aside0.mk hgo.2.1
              clear hgo
              have hx0 := Kd.C_below (Kd.C_below HR0.out HB6.out) HB.out
              have hx1 := Kd.C_below (Kd.C_below HR1.out HB6.out) HB.out
              obtain ⟨ad, rfl, hc⟩ := Kd.at_int hx0 (k : Int) (by omega) (by omega)
              obtain ⟨ae, rfl, hd⟩ := Kd.at_int hx1 (k : Int) (by omega) (by omega)
              clear hx0 hx1
              rw [Int.toNat_natCast] at hc hd
              obtain ⟨z, hz⟩ : ∃ z, z = rd l0 (k : Int) := ⟨_, rfl⟩
              obtain ⟨y, hy⟩ : ∃ y, y = rd l1 (k : Int) := ⟨_, rfl⟩
              rw [← hz, ← hy] at HST
              rw [← hz] at hc
              rw [← hy] at hd
              clear hz hy
              go_upto_region 10 with (fail)
              go_quiet (fail)
              have HB' := Aside0.mk (below_dN HB.out nq)
              go_wp2_with fail
              go_roundw
              case rel => exact ⟨k + 1, by rw [← HST.out]; simp [HLL.out], by go_num, by omega, HB'.out⟩
              case measure => simp [intOf]; omega
            · have hs : decide (l0.length = l1.length ∧ l0.take k = l1.take k) = false := by
                rw [decide_eq_false_iff_not]
                rintro ⟨h1, h2⟩
                have hk' : k = l0.length := Nat.le_antisymm hk (Nat.not_lt.mp fun h => hgo ⟨h, h1, h2⟩)
                rw [hk', List.take_length, h1, List.take_length] at h2
                exact hab h2
              rw [hs]
              clear hs hgo
              by_cases hle : xs.length ≤ ys.length
              · have hv : ∀ nq, (convert 40 9 (.slice A4 xs.length c4)).run Try.prog (wr.drewN nq) = .ok (.string (strOfNums xs)) (wr.drewN nq) := fun nq => HCX.out _ (below_dN HB.out nq)
                have hu : ∀ nq, (convert 40 9 (.slice A5 xs.length c5)).run Try.prog (wr.drewN nq) = .ok (.string (strOfNums (ys.take xs.length))) (wr.drewN nq) := fun nq => HCY.out hle _ (below_dN HB.out nq)
                have hq := HBG.out hle
                have ht2 := HTS.out hle
                by_cases hlt : k < l0.length
                · go_upto_region 11 with (fail)
                  go_quiet (fail)
                  have HB' := Aside0.mk (below_dN HB.out nq)
                  go_wp2_with fail
                  go_ret
                  exact ⟨rfl, below_step HB6.out HB'.out⟩
                · go_upto_region 11 with (fail)
                  go_quiet (fail)
                  have HB' := Aside0.mk (below_dN HB.out nq)
                  go_wp2_with fail
                  go_ret
                  exact ⟨rfl, below_step HB6.out HB'.out⟩
              · by_cases hlt : k < l0.length
                · go_upto_region 11 with (fail)
                  go_quiet (fail)
                  have HB' := Aside0.mk (below_dN HB.out nq)
                  go_wp2_with fail
                  go_ret
                  exact ⟨rfl, below_step HB6.out HB'.out⟩
                · go_upto_region 11 with (fail)
                  go_quiet (fail)
                  have HB' := Aside0.mk (below_dN HB.out nq)
                  go_wp2_with fail
                  go_ret
                  exact ⟨rfl, below_step HB6.out HB'.out⟩
  obtain ⟨xs, e, hx⟩ : ∃ xs e, encR (manyS (fun s x => numS s 8 0 x) ([], 0) l0) = (xs, e) := ⟨_, _, rfl⟩
  obtain ⟨ys, g, hy⟩ : ∃ ys g, encR (manyS (fun s x => numS s 8 0 x) ([], 0) l1) = (ys, g) := ⟨_, _, rfl⟩
  refine key xs ys e g hx hy ?_
  rw [encR_ints] at hx hy
  by_cases h0 : l0.length ≤ 4096
  · rw [if_pos h0] at hx
    obtain ⟨rfl, rfl⟩ := Prod.mk.inj hx
    by_cases h1 : l1.length ≤ 4096
    · rw [if_pos h1] at hy
      obtain ⟨rfl, rfl⟩ := Prod.mk.inj hy
      exact .inr (.inr ⟨h0, h1, rfl, rfl, rfl, rfl⟩)
    · rw [if_neg h1] at hy
      obtain ⟨rfl, rfl⟩ := Prod.mk.inj hy
      exact .inr (.inl ⟨h0, by omega, rfl, rfl⟩)
  · rw [if_neg h0] at hx
    obtain ⟨rfl, rfl⟩ := Prod.mk.inj hx
    exact .inl ⟨by omega, rfl⟩

end Go.Proofs.Ytdlkkjfbbeffbaa.P
