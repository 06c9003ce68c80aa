/- Ytjkjpmfenillcaa: what Go functions come to, and that they do: walks, printed by a program of this session or typed by hand; no statement of the seat stands here. -/
import Derived.Test.YtjkjpmfenillcaaP0
import Derived.Test.YtjkjpmfenillcaaModL
import Derived.Test.YtjkjpmfenillcaaModW
namespace Go.Proofs.Ytjkjpmfenillcaa.P
open Go.RowKit Go.Proofs.YtjkjpmfenillcaaW.PrintWords Go.Proofs.YtjkjpmfenillcaaW.PrintLast Go.Proofs.YtjkjpmfenillcaaW.PrintMore
attribute [local go_sem] max2_int min2_int max_two min_two max_three min_three max_four min_four   -- for this text's walks alone
set_option linter.unusedVariables false
set_option linter.unusedSimpArgs false


/-! ### pianolalaw06_ModuleWhole: function 6 -/
-- IMPORT Derived.Test.YtjkjpmfenillcaaModW
-- IMPORT Derived.Test.YtjkjpmfenillcaaModL
def pianolalaw06_ModuleWhole.f (l0_0 : List Int) (l0_1 : List FnS) (a1 : Int) : Option Bool := if okMod l0_0 l0_1 = true then some true else none
set_option maxRecDepth 100000 in
set_option maxHeartbeats 4000000 in
theorem pianolalaw06_ModuleWhole.calls (A0_0 : Option Addr) (c0_0 : Nat) (l0_0 : List Int) (A0_1 : Option Addr) (c0_1 : Nat) (l0_1 : List FnS) (a1 : Int) (r : Bool) (w : World) (hr0_0 : Kd.C (Kd.int .i64) w A0_0 l0_0.length l0_0) (hc0_0 : l0_0.length ≤ c0_0) (hr0_1 : Kd.C k41 w A0_1 l0_1.length l0_1) (hc0_1 : l0_1.length ≤ c0_1) (h : pianolalaw06_ModuleWhole.f l0_0 l0_1 a1 = some r) :
    Calls Try.prog 6 #[.agg #[.slice A0_0 l0_0.length c0_0, .slice A0_1 l0_1.length c0_1], .int .i64 a1] w fun e w' => e = .returned (.bool r) ∧ Below w.heap.size w w' := by
  have hok : okMod l0_0 l0_1 = true := by
    unfold pianolalaw06_ModuleWhole.f at h
    split at h
    · assumption
    · cases h
  obtain rfl : r = true := by
    unfold pianolalaw06_ModuleWhole.f at h
    rw [if_pos hok] at h
    exact (Option.some.inj h).symm
  clear h
  obtain ⟨xs, ex, hx⟩ : ∃ xs ex, encM l0_0 l0_1 = (xs, ex) := ⟨_, _, rfl⟩
  have HX := Aside0.mk hx
  have H00 := Aside0.mk hr0_0
  have H01 := Aside0.mk hr0_1
  have C00 := Aside0.mk hc0_0
  have C01 := Aside0.mk hc0_1
  have HOK := Aside0.mk hok
  clear hx hr0_0 hr0_1 hc0_0 hc0_1 hok
  have hmx0 := Kd.C_max H00.out
  have hmx1 := Kd.C_max H01.out
  go_enter Try.func6, Try.ntmps6
  go_upto_region 1 with (fail)
  obtain ⟨W2, hW2⟩ : ∃ W2, w.alloc (.cells #[.slice A0_0 l0_0.length c0_0, .slice A0_1 l0_1.length c0_1] 27) = W2 := ⟨_, rfl⟩
  have hb2 : Below w.heap.size w W2 := by rw [← hW2]; exact below_alloc (Below.refl _ _) _
  have hx2 : W2.heap[w.heap.size]? = some (.cells #[.slice A0_0 l0_0.length c0_0, .slice A0_1 l0_1.length c0_1] 27 (0, 0)) := by rw [← hW2]; exact blk_new w _
  rw [hW2]
  clear hW2
  have p0 := blk_cell hx2 0
  have p1 := blk_cell hx2 1
  have HB2 := Aside0.mk hb2
  have HX2 := Aside0.mk hx2
  clear hb2 hx2
  by_cases hbig : (l0_0.length : Int) > 300 ∨ (l0_1.length : Int) > 40
  · by_cases h3 : (l0_0.length : Int) > 300
    · go_wp2_with fail
      refine (lives_run _).mono ?_
      rintro r w3 ⟨rfl, hb3⟩
      have HB3 := Aside0.mk (below_step HB2.out hb3)
      clear hb3 p0 p1
      go_wp2_with fail
      go_ret
      exact ⟨rfl, HB3.out⟩
    · have h4 : (l0_1.length : Int) > 40 := hbig.resolve_left h3
      clear hbig
      go_wp2_with fail
      refine (lives_run _).mono ?_
      rintro r w3 ⟨rfl, hb3⟩
      have HB3 := Aside0.mk (below_step HB2.out hb3)
      clear hb3 p0 p1
      go_wp2_with fail
      go_ret
      exact ⟨rfl, HB3.out⟩
  · have h3 : ¬ (l0_0.length : Int) > 300 := fun e => hbig (.inl e)
    have h4 : ¬ (l0_1.length : Int) > 40 := fun e => hbig (.inr e)
    clear hbig
    have n3 : l0_0.length ≤ 300 := by omega
    have n4 : l0_1.length ≤ 40 := by omega
    go_wp2_with fail
    have h1 := menc_run A0_0 c0_0 l0_0 A0_1 c0_1 l0_1 W2 (Kd.C_below H00.out HB2.out) C00.out (Kd.C_below H01.out HB2.out) C01.out
    rw [HX.out] at h1
    refine h1.mono ?_
    rintro r w3 ⟨Ax, cx, rfl, hCx, hlx, hb3⟩
    have HX3 := Aside0.mk (blk_below HX2.out hb3)
    have HB3 := Aside0.mk (below_step HB2.out hb3)
    have HCX3 := Aside0.mk hCx
    have HLX := Aside0.mk hlx
    clear h1 hCx hlx hb3 p0 p1
    go_wp2_with fail
    refine (lives_run _).mono ?_
    rintro r w4 ⟨rfl, hb4⟩
    have HX4 := Aside0.mk (blk_below HX3.out hb4)
    have HB4 := Aside0.mk (below_step HB3.out hb4)
    have HCX4 := Aside0.mk (Kd.C_below HCX3.out hb4)
    clear hb4
    by_cases hex : ex = 0
    · subst hex
      have p0 := blk_cell HX4.out 0
      have p1 := blk_cell HX4.out 1
      have HLEN := Aside0.mk (enc_len HX.out)
      have hmax := (enc_parts HX.out).2.2
      have hmax2 : 8 + 8 * l0_0.length + sumF l0_1 ≤ 1048576 := by have := HLEN.out; omega
      go_wp2_with fail
      go_loopw [7, 8] (fun v7 v8 wr => ∃ k : Nat, v8 = .int .i64 k ∧ k ≤ l0_1.length ∧ v7 = .int .i64 ((8 + 8 * l0_0.length + sumF (l0_1.take k) : Nat) : Int) ∧ wr = w4) (fun _ v8 _ => l0_1.length - (intOf v8).toNat)
      case atStart => exact ⟨0, rfl, Nat.zero_le _, by go_num, rfl⟩
      case round =>
        obtain ⟨k, rfl, hk, rfl, rfl⟩ := hrel
        by_cases hlt : k < l0_1.length
        · have hi1 : (k : Int) < (l0_1.length : Int) := by omega
          have hi0 : (0 : Int) ≤ (k : Int) := by omega
          obtain ⟨ad, A2, c2, hA, a1', a2, a3, hl2, hC2⟩ := at_T41 (Kd.C_below H01.out HB4.out) (k : Int) hi0 hi1
          subst hA
          rw [rdf_get l0_1 k hlt] at a3 hl2 hC2
          simp only [Int.toNat_natCast] at a3
          have hst := sumF_take l0_1 k hlt
          have hsl := sumF_le l0_1 (k + 1)
          clear a1' a2 hC2
          go_wp2_with fail
          go_round
          case rel => exact ⟨k + 1, by go_num, by omega, by rw [hst]; go_num, trivial⟩
          case measure => simp [intOf]; omega
        · have hi1 : ¬ (k : Int) < (l0_1.length : Int) := by omega
          obtain rfl : k = l0_1.length := by omega
          rw [List.take_length, ← HLEN.out]
          clear hmax2 hlt hk hi1
          go_wp2_with (first
            | (refine Kd.R_append_rows (Kd.int .u8) (Rr := fun x cs => cs = [.int .u8 x]) (w0 := wr) wr.heap.size rfl (.tmp 65) (.tmp 66) 22 5 (.int .u8 0) 1 rfl Try.underlying22 (by kernel_rfl) rfl (by decide) (by decide) (.slice A5 xs.length c5) xs [0] (some ⟨w5.heap.size, 0, none⟩) 1 1 (fun _ => True) (fun _ => False) rfl rfl (Kd.R_alloc HR5.out _) (C_one8 (blk_new w5 _)) (fun _ _ h => h) (fun _ hk => hk.elim) (fun _ _ => trivial) (below_step HB5.out (below_alloc (Below.refl _ _) _)) (by rw [World.size_alloc]; have := HZ5.out; omega) (by omega) ?_; intro v6 w6 ho hb6 hg hat; obtain ⟨A6, c6, hv6⟩ := Kd.R_slice ho; subst hv6; have HR6 := Aside0.mk ho; have HB6 := Aside0.mk hb6; clear ho hb6 hg hat)
            | (refine Kd.R_append_rows (Kd.int .u8) (Rr := fun x cs => cs = [.int .u8 x]) (w0 := wr) wr.heap.size rfl (.tmp 63) (.tmp 64) 22 5 (.int .u8 0) 1 rfl Try.underlying22 (by kernel_rfl) rfl (by decide) (by decide) (.slice (some ⟨wr.heap.size, 0, none⟩) 0 0) [] xs Ax xs.length cx (fun _ => True) (fun _ => False) rfl rfl (empty_own wr wr.heap.size (Nat.le_refl _)) (Kd.C_alloc HCX4.out _) (fun _ _ h => h) (fun _ hk => hk.elim) (fun _ _ => trivial) (below_alloc (Below.refl _ _) _) (by rw [World.size_alloc]; omega) (by simp; omega) ?_; intro v5 w5 ho hb5 hg hat; obtain ⟨A5, c5, hv5⟩ := Kd.R_slice ho; subst hv5; simp only [List.nil_append] at ho hat; have HR5 := Aside0.mk ho; have HB5 := Aside0.mk hb5; have HZ5 := Aside0.mk hb5.size; clear ho hb5 hg hat))
          have h1 := mdec_run A6 c6 (xs ++ [0]) w6 (Kd.R_reads' HR6.out).2.2 (Kd.R_reads' HR6.out).2.1 (okL_more HX.out HOK.out)
          obtain ⟨D0, D1, hD⟩ : ∃ D0 D1, decM (xs ++ [0]) = (D0, D1, 10) := ⟨_, _, Prod.ext rfl (Prod.ext rfl (decM_more HX.out (okMod_is HOK.out).1 0))⟩
          rw [hD, show (xs ++ [(0 : Int)]).length = xs.length + 1 by simp] at h1
          refine h1.mono ?_
          rintro r w7 ⟨E0, e0, E1, e1, rfl, _, _, hb7⟩
          have HB7 := Aside0.mk (below_step HB4.out (below_step HB6.out hb7))
          have HCX7 := Aside0.mk (Kd.C_below (Kd.C_below HCX4.out HB6.out) hb7)
          clear h1 hD hb7 p0 p1
          by_cases hcut : a1 < 0 ∨ a1 ≥ (xs.length : Int)
          · by_cases hc0 : a1 < 0
            · go_wp2_with fail
              go_ret
              exact ⟨rfl, below_step HB7.out (below_alloc (Below.refl _ _) _)⟩
            · have hc1 : a1 ≥ (xs.length : Int) := hcut.resolve_left hc0
              clear hcut
              go_wp2_with fail
              go_ret
              exact ⟨rfl, below_step HB7.out (below_alloc (Below.refl _ _) _)⟩
          · have hc0 : ¬ a1 < 0 := fun e => hcut (.inl e)
            have hc1 : ¬ a1 ≥ (xs.length : Int) := fun e => hcut (.inr e)
            clear hcut
            obtain ⟨n, rfl⟩ : ∃ n : Nat, a1 = (n : Int) := ⟨a1.toNat, by omega⟩
            have hn : n < xs.length := by omega
            have hts : ∀ W, (Instr.slice 22 (.slice Ax xs.length cx) none (some (.int .i64 (n : Int))) none).run Try.prog W = .ok (.slice Ax n cx) W := by
              obtain ⟨i0, hi0, _, hs0, _⟩ := info_parts (show (Try.prog.info? 5).map (fun i => (i.zero, i.size, i.bytes)) = some (some (.int .u8 0), 1, 1) by kernel_rfl)
              obtain ⟨ht, _, _⟩ := print_take_of (P := Try.prog) (Value.int .u8) 0 22 5 .i64 Try.underlying22 hi0 hs0 Ax cx xs (n : Int) (by omega) (by omega) HLX.out
              rw [Int.toNat_natCast, show (xs.take n).length = n by rw [List.length_take]; omega] at ht
              exact ht
            go_wp2_with fail
            have h1 := mdec_run Ax cx (xs.take n) (w7.alloc (.cells #[.slice E0 D0.length e0, .slice E1 D1.length e1] 27)) (Kd.C_alloc (Kd.C_take HCX7.out (Nat.le_of_lt hn)) _) (by have := HLX.out; rw [List.length_take]; omega) (okL_less HX.out HOK.out n)
            obtain ⟨D2, D3, hD⟩ : ∃ D2 D3, decM (xs.take n) = (D2, D3, 10) := ⟨_, _, Prod.ext rfl (Prod.ext rfl (decM_less HX.out (okMod_is HOK.out).1 n hn))⟩
            rw [hD, show (xs.take n).length = n by rw [List.length_take]; omega] at h1
            refine h1.mono ?_
            rintro r w8 ⟨E2, e2, E3, e3, rfl, _, _, hb8⟩
            have HB8 := Aside0.mk (below_step (below_step HB7.out (below_alloc (Below.refl _ _) _)) hb8)
            clear h1 hD hb8 hts
            go_wp2_with fail
            go_ret
            exact ⟨rfl, below_step HB8.out (below_alloc (Below.refl _ _) _)⟩
    · have hex1 : (ex != 0) = true := by simpa using hex
      go_wp2_with fail
      refine (lives_run _).mono ?_
      rintro r w5 ⟨rfl, hb5⟩
      have HB5 := Aside0.mk (below_step HB4.out hb5)
      clear hb5
      go_wp2_with fail
      go_ret
      exact ⟨rfl, HB5.out⟩

end Go.Proofs.Ytjkjpmfenillcaa.P
