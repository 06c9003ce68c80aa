/- Ytjkjpmfenillcaa: what Go functions come to, and that they do: walks, printed by a program of this session or typed by hand; no statement of the seat stands here. -/
import Derived.Test.YtjkjpmfenillcaaP0
import Derived.Test.YtjkjpmfenillcaaPF20
import Derived.Test.YtjkjpmfenillcaaModL
import Derived.Test.YtjkjpmfenillcaaModP
import Derived.Test.YtjkjpmfenillcaaPF20
namespace Go.Proofs.Ytjkjpmfenillcaa.P
open Go.RowKit Go.Proofs.YtjkjpmfenillcaaW.PrintWords Go.Proofs.YtjkjpmfenillcaaW.PrintLast Go.Proofs.YtjkjpmfenillcaaW.PrintMore
attribute [local go_sem] max2_int min2_int max_two min_two max_three min_three max_four min_four   -- for this text's walks alone
set_option linter.unusedVariables false
set_option linter.unusedSimpArgs false


/-! ### pianolalaw06_ModulePlaces: function 7 -/
-- IMPORT Derived.Test.YtjkjpmfenillcaaModP
-- IMPORT Derived.Test.YtjkjpmfenillcaaModL
-- IMPORT Derived.Test.YtjkjpmfenillcaaPF20
def pianolalaw06_ModulePlaces.f (l0_0 : List Int) (l0_1 : List FnS) (a1 : Int) : Option Bool := if okMod l0_0 l0_1 = true then some true else none
set_option maxRecDepth 100000 in
set_option maxHeartbeats 4000000 in
theorem pianolalaw06_ModulePlaces.calls (A0_0 : Option Addr) (c0_0 : Nat) (l0_0 : List Int) (A0_1 : Option Addr) (c0_1 : Nat) (l0_1 : List FnS) (a1 : Int) (r : Bool) (w : World) (hr0_0 : Kd.C (Kd.int .i64) w A0_0 l0_0.length l0_0) (hc0_0 : l0_0.length ≤ c0_0) (hr0_1 : Kd.C k41 w A0_1 l0_1.length l0_1) (hc0_1 : l0_1.length ≤ c0_1) (h : pianolalaw06_ModulePlaces.f l0_0 l0_1 a1 = some r) :
    Calls Try.prog 7 #[.agg #[.slice A0_0 l0_0.length c0_0, .slice A0_1 l0_1.length c0_1], .int .i64 a1] w fun e w' => e = .returned (.bool r) ∧ Below w.heap.size w w' := by
  have hok : okMod l0_0 l0_1 = true := by
    unfold pianolalaw06_ModulePlaces.f at h
    split at h
    · assumption
    · cases h
  obtain rfl : r = true := by
    unfold pianolalaw06_ModulePlaces.f at h
    rw [if_pos hok] at h
    exact (Option.some.inj h).symm
  clear h
  have hbk := (okMod_is hok).2.2.2
  have hcs := codeM_cases l0_1 a1 hbk
  have hrun := fun w h1 => mcode_run A0_0 c0_0 l0_0 A0_1 c0_1 l0_1 a1 w h1 hbk
  obtain ⟨ls, ats, ec, hx⟩ : ∃ ls ats ec, codeM l0_1 a1 = (ls, ats, ec) := ⟨_, _, _, rfl⟩
  rw [hx] at hcs hrun
  dsimp only at hcs
  have HRUN := Aside0.mk hrun
  have HCS := Aside0.mk hcs
  have H00 := Aside0.mk hr0_0
  have H01 := Aside0.mk hr0_1
  have hmx1 := Kd.C_max hr0_1
  clear hx hr0_0 hr0_1 hc0_0 hc0_1 hok hbk hcs hrun
  go_enter Try.func7, Try.ntmps7
  go_upto_region 1 with (fail)
  obtain ⟨W2, hW2⟩ : ∃ W2, w.alloc (.cells #[.slice A0_0 l0_0.length c0_0, .slice A0_1 l0_1.length c0_1] 27) = W2 := ⟨_, rfl⟩
  have hb2 : Below w.heap.size w W2 := by rw [← hW2]; exact below_alloc (Below.refl _ _) _
  have hx2 : W2.heap[w.heap.size]? = some (.cells #[.slice A0_0 l0_0.length c0_0, .slice A0_1 l0_1.length c0_1] 27 (0, 0)) := by rw [← hW2]; exact blk_new w _
  rw [hW2]
  clear hW2
  have p0 := blk_cell hx2 0
  have p1 := blk_cell hx2 1
  have HB2 := Aside0.mk hb2
  have HX2 := Aside0.mk hx2
  clear hb2 hx2
  go_wp2_with fail
  refine (HRUN.out W2 (Kd.C_below H01.out HB2.out)).mono ?_
  rintro r w3 ⟨v0, v1, rfl, hR0, hR1, hb3⟩
  obtain ⟨Al, cl, rfl⟩ := Kd.R_slice hR0
  obtain ⟨At, ct, rfl⟩ := Kd.R_slice hR1
  have HX3 := Aside0.mk (blk_below HX2.out hb3)
  have HB3 := Aside0.mk (below_step HB2.out hb3)
  have HL3 := Aside0.mk (Kd.R_reads' hR0).2.2
  have HA3 := Aside0.mk (Kd.R_reads' hR1).2.2
  clear hR0 hR1 hb3 p0 p1
  go_wp2_with fail
  refine (lives_run _).mono ?_
  rintro r w4 ⟨rfl, hb4⟩
  have HX4 := Aside0.mk (blk_below HX3.out hb4)
  have HB4 := Aside0.mk (below_step HB3.out hb4)
  have HL4 := Aside0.mk (Kd.C_below HL3.out hb4)
  have HA4 := Aside0.mk (Kd.C_below HA3.out hb4)
  clear hb4
  rcases HCS.out with ⟨_, _, he⟩ | ⟨rfl, n, rfl, hn, hst⟩
  · have hex1 : (ec != 0) = true := by simpa using he
    clear he
    go_wp2_with fail
    refine (lives_run _).mono ?_
    rintro r w5 ⟨rfl, hb5⟩
    have HB5 := Aside0.mk (below_step HB4.out hb5)
    clear hb5
    go_wp2_with fail
    go_ret
    exact ⟨rfl, HB5.out⟩
  · have HST := Aside0.mk hst
    have p1 := blk_cell HX4.out 1
    have lx := blk_lt HX4.out
    have h0 : decide ((n : Int) < 0) = false := by simp
    have h1 : decide ((n : Int) ≥ (l0_1.length : Int)) = false := by simp; omega
    have h2 : decide (l0_1.length ≤ n) = false := by simp; omega
    have hmax := hst.max
    have hfew := hst.few
    have hle := hst.le
    have hlen := hst.len
    have HLE := Aside0.mk hle
    have HLEN := Aside0.mk hlen
    clear hst hle hlen
    go_wp2_with fail
    go_loopw [4, 8, 9] (fun v4 v8 v9 wr => ∃ k : Nat, v9 = .int .i64 k ∧ k ≤ ls.length ∧ v8 = .int .i64 ((atK ls k : Nat) : Int) ∧ Below w4.heap.size w4 wr) (fun _ _ v9 _ => ls.length - (intOf v9).toNat)
    case atStart => exact ⟨0, rfl, Nat.zero_le _, by rw [atK_zero]; rfl, Below.refl _ _⟩
    case round =>
      obtain ⟨k, rfl, hk, rfl, hb⟩ := hrel
      have HB := Aside0.mk hb
      clear hb p1 lx
      by_cases hlt : k < ls.length
      · have hi1 : (k : Int) < (ls.length : Int) := by omega
        have hi0 : (0 : Int) ≤ (k : Int) := by omega
        have ha1 : ¬ (k : Int) ≥ (ats.length : Int) := by have := HLEN.out; omega
        have ha2 : (k : Int) < (ats.length : Int) := by omega
        obtain ⟨ad, rfl, hc⟩ := Kd.at_int (Kd.C_below HA4.out HB.out) (k : Int) hi0 ha2
        rw [Int.toNat_natCast, HST.out.rd k hlt] at hc
        obtain ⟨ad2, hA2, g0, g1⟩ := at_T47 (Kd.C_below HL4.out HB.out) (k : Int) hi0 hi1
        subst hA2
        simp only [Int.toNat_natCast] at g0
        have hsz := Pl.rsize_all 5 (rd_T47 ls (k : Int)).f0
        have hnx := HST.out.next k hlt
        have hz0 := Pl.sz_lo (rd_T47 ls (k : Int)).f0
        have hz1 := Pl.sz_hi (rd_T47 ls (k : Int)).f0
        have hlk := HLE.out k
        clear g1
        have HSZ := Aside0.mk hsz
        have HNX := Aside0.mk hnx
        clear hsz hnx
        go_wp2_with fail
        refine (pianolaref05_Size.calls 8 _ _ _ HSZ.out).mono ?_
        rintro r w5 ⟨rfl, hb5⟩
        have HB5 := Aside0.mk (below_step HB.out hb5)
        clear hb5
        go_wp2_with fail
        go_roundw
        case rel => exact ⟨k + 1, by go_num, by omega, by rw [HNX.out]; go_num, HB5.out⟩
        case measure => simp [intOf]; omega
      · have hi1 : ¬ (k : Int) < (ls.length : Int) := by omega
        obtain rfl : k = ls.length := by omega
        have HX5 := Aside0.mk (blk_below HX4.out HB.out)
        have p1 := blk_cell HX5.out 1
        obtain ⟨ad, A2, c2, hA, a1', a2, a3, hl2, hC2⟩ := at_T41 (Kd.C_below H01.out (below_step HB4.out HB.out)) (n : Int) (by omega) (by omega)
        subst hA
        rw [rdf_get l0_1 n hn] at a3 hl2 hC2
        simp only [Int.toNat_natCast] at a3
        have hfin : ((atK ls ls.length : Nat) : Int) = (l0_1[n].f2.length : Int) := by rw [HST.out.fin]
        have HFIN := Aside0.mk hfin
        have hlx := blk_lt HX5.out
        clear a1' a2 hC2 hfin
        rw [HFIN.out, HLEN.out]
        go_wp2_with fail
        go_ret
        exact ⟨by simp, below_step HB4.out HB.out⟩

end Go.Proofs.Ytjkjpmfenillcaa.P
