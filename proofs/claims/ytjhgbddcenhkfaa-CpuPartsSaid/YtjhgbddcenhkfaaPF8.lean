/- Ytjhgbddcenhkfaa: what Go functions come to, and that they do: walks, printed by a program of this session or typed by hand; no statement of the seat stands here. -/
import Derived.Test.YtjhgbddcenhkfaaP0
import Derived.Test.YtjhgbddcenhkfaaPF13
import Derived.Test.YtjhgbddcenhkfaaCpuP
import Derived.Test.YtjhgbddcenhkfaaPF13
namespace Go.Proofs.Ytjhgbddcenhkfaa.P
open Go.RowKit Go.Proofs.YtjhgbddcenhkfaaW.PrintWords Go.Proofs.YtjhgbddcenhkfaaW.PrintLast Go.Proofs.YtjhgbddcenhkfaaW.PrintMore
attribute [local go_sem] max2_int min2_int max_two min_two max_three min_three max_four min_four   -- for this text's walks alone
set_option linter.unusedVariables false
set_option linter.unusedSimpArgs false


/-! ### pianolalaw14_CpuParts: function 8 -/
-- IMPORT Derived.Test.YtjhgbddcenhkfaaCpuP
-- IMPORT Derived.Test.YtjhgbddcenhkfaaPF13
def pianolalaw14_CpuParts.f (_l0 : List Int) (_l1 : List Int) (_a2 : Int) (_a3 : Int) : Option Bool := some true
theorem regC_run2 {w wr : World} {M E pa : Nat} {Aa : Option Addr} {ca ba pb : Nat} {Ab : Option Addr} {cb bb : Nat} {sa sb : CS} (h : TwoC w wr M E pa Aa ca ba pb Ab cb bb sa sb) (m : Nat) : TwoC w (wr.drewN m) M E pa Aa ca ba pb Ab cb bb sa sb := h.below (pw_below_drewN (Below.refl _ wr) m)
set_option maxRecDepth 100000 in
set_option maxHeartbeats 8000000 in
theorem pianolalaw14_CpuParts.calls (A0 : Option Addr) (c0 : Nat) (l0 : List Int) (A1 : Option Addr) (c1 : Nat) (l1 : List Int) (a2 : Int) (a3 : Int) (r : Bool) (w : World) (hr0 : Kd.C (Kd.int .u32) w A0 l0.length l0) (hc0 : l0.length ≤ c0) (hr1 : Kd.C (Kd.int .i64) w A1 l1.length l1) (hc1 : l1.length ≤ c1) (h : pianolalaw14_CpuParts.f l0 l1 a2 a3 = some r) :
    Calls Try.prog 8 #[.slice A0 l0.length c0, .slice A1 l1.length c1, .int .i64 a2, .int .i64 a3] w fun e w' => e = .returned (.bool r) ∧ Below w.heap.size w w' := by
  obtain rfl : r = true := (Option.some.inj h).symm
  clear h
  by_cases h1 : (l0.length : Int) > 300
  · go_enter Try.func8, Try.ntmps8
    go_wp2_with fail
    refine (pianolalaw14_lives.calls true _ rfl).mono ?_
    rintro e w2 ⟨rfl, hb2⟩
    have HB2 := Aside0.mk hb2
    clear hb2
    go_wp2_with fail
    go_ret
    exact ⟨rfl, HB2.out⟩
  by_cases h2 : a2 < 0
  · go_enter Try.func8, Try.ntmps8
    go_wp2_with fail
    refine (pianolalaw14_lives.calls true _ rfl).mono ?_
    rintro e w2 ⟨rfl, hb2⟩
    have HB2 := Aside0.mk hb2
    clear hb2
    go_wp2_with fail
    go_ret
    exact ⟨rfl, HB2.out⟩
  by_cases h3 : a3 < 0
  · go_enter Try.func8, Try.ntmps8
    go_wp2_with fail
    refine (pianolalaw14_lives.calls true _ rfl).mono ?_
    rintro e w2 ⟨rfl, hb2⟩
    have HB2 := Aside0.mk hb2
    clear hb2
    go_wp2_with fail
    go_ret
    exact ⟨rfl, HB2.out⟩
  by_cases h4 : a2 > 100
  · go_enter Try.func8, Try.ntmps8
    go_wp2_with fail
    refine (pianolalaw14_lives.calls true _ rfl).mono ?_
    rintro e w2 ⟨rfl, hb2⟩
    have HB2 := Aside0.mk hb2
    clear hb2
    go_wp2_with fail
    go_ret
    exact ⟨rfl, HB2.out⟩
  by_cases h5 : a3 > 100
  · go_enter Try.func8, Try.ntmps8
    go_wp2_with fail
    refine (pianolalaw14_lives.calls true _ rfl).mono ?_
    rintro e w2 ⟨rfl, hb2⟩
    have HB2 := Aside0.mk hb2
    clear hb2
    go_wp2_with fail
    go_ret
    exact ⟨rfl, HB2.out⟩
  obtain ⟨m, rfl⟩ := Int.eq_ofNat_of_zero_le (show 0 ≤ a2 by omega)
  obtain ⟨n, rfl⟩ := Int.eq_ofNat_of_zero_le (show 0 ≤ a3 by omega)
  have hm : m ≤ 100 := by omega
  have hn : n ≤ 100 := by omega
  have hl0 : l0.length ≤ 65536 := by omega
  have HR0 := Aside0.mk hr0
  have HR1 := Aside0.mk hr1
  have hmx1 := Kd.C_max hr1
  have hu53 := Try.underlying53
  have hu23 := Try.underlying23
  have wmn : IntKind.i64.wrap ((m : Int) + (n : Int)) = (m : Int) + (n : Int) := by rw [IntKind.wrap_i64]; omega
  clear hr0 hr1
  go_enter Try.func8, Try.ntmps8
  go_wp2_with fail
  refine (new_run w A0 c0 l0 HR0.out hc0 hl0 64 (by decide)).mono ?_
  rintro e w1 ⟨pa, Aa, ca, ba, rfl, hOa, hb1⟩
  have HB1 := Aside0.mk hb1
  have HOa := Aside0.mk hOa
  clear hb1 hOa
  go_wp2_with fail
  refine (new_run w1 A0 c0 l0 (Kd.C_below HR0.out HB1.out) hc0 hl0 64 (by decide)).mono ?_
  rintro e w2 ⟨pb, Ab, cb, bb, rfl, hOb, hb2⟩
  have HTW2 := Aside0.mk (show TwoC w w2 w1.heap.size w2.heap.size pa Aa ca ba pb Ab cb bb (newC l0 64) (newC l0 64) from ⟨HOa.out.below hb2, hOb, below_step HB1.out hb2, Nat.le_refl _⟩)
  clear hb2 hOb HOa HB1
  go_wp2_with fail
  refine (pianolalaw14_lives.calls true _ rfl).mono ?_
  rintro e w3 ⟨rfl, hb3⟩
  have HTW3 := Aside0.mk (HTW2.out.below hb3)
  clear hb3 HTW2
  go_wp2_with fail
  go_loopw [13] (fun v13 wr => ∃ (k : Nat) (s : CS), v13 = .int .i64 k ∧ k ≤ 32 ∧ k ≤ l1.length ∧ SOK s ∧ TwoC w wr w1.heap.size w2.heap.size pa Aa ca ba pb Ab cb bb s s) (fun v13 _ => 32 - (intOf v13).toNat)
  case atStart => exact ⟨0, newC l0 64, rfl, by omega, by omega, SOK_new l0 64 hl0, HTW3.out⟩
  case round =>
    obtain ⟨k, s, rfl, hk, hk1, hs, htw⟩ := hrel
    have HS := Aside0.mk hs
    have HTW := Aside0.mk htw
    clear hs htw HTW3
    by_cases hlt : k < l1.length ∧ k < 32
    · obtain ⟨hlt1, hlt2⟩ := hlt
      have hi1 : (k : Int) < (l1.length : Int) := by omega
      have hi2 : (k : Int) < 32 := by omega
      obtain ⟨ad, rfl, hc⟩ := Kd.at_int (Kd.C_below HR1.out HTW.out.lo) (k : Int) (by omega) (by omega)
      rw [Int.toNat_natCast] at hc
      obtain ⟨v, hv⟩ : ∃ v, v = rd l1 (k : Int) := ⟨_, rfl⟩
      rw [← hv] at hc
      have HV := Aside0.mk hv
      clear hv
      go_wp2_with fail
      have hsa := set_run HTW.out.a (k : Int) v
      rw [if_pos (show isReg (k : Int) = true by unfold isReg; rw [Bool.and_eq_true, decide_eq_true_eq, decide_eq_true_eq]; omega)] at hsa
      refine hsa.mono ?_
      rintro e w4 ⟨rfl, hT4⟩
      have HTW4 := Aside0.mk (HTW.out.onA hT4)
      clear hT4 hc hsa
      obtain ⟨ad2, hca, hcb⟩ := Kd.at_int (Kd.C_below HR1.out HTW4.out.lo) (k : Int) (by omega) (by omega)
      obtain rfl := Option.some.inj hca
      rw [Int.toNat_natCast, ← HV.out] at hcb
      go_wp2_with fail
      have hsb := set_run HTW4.out.b (k : Int) v
      rw [if_pos (show isReg (k : Int) = true by unfold isReg; rw [Bool.and_eq_true, decide_eq_true_eq, decide_eq_true_eq]; omega)] at hsb
      refine hsb.mono ?_
      rintro e w5 ⟨rfl, hT5⟩
      have HTW5 := Aside0.mk (HTW4.out.onB hT5)
      clear hT5 hcb hsb
      go_wp2_with fail
      go_roundw
      case rel => exact ⟨k + 1, setS s (k : Int) v, by go_num, by omega, by omega, HS.out.setS _ _, HTW5.out⟩
      case measure => simp only [intOf]; omega
    · have hd : (¬ (k : Int) < (l1.length : Int)) ∨ ((k : Int) < (l1.length : Int) ∧ ¬ (k : Int) < 32) := by omega
      have hsz0 := HTW.out.hE
      have hra := run_run HTW.out.a HTW.out.hM HS.out (m : Int)
      have hbd := runC_bound m (by omega) s
      have hs1 := SOK.runC HS.out (m : Int)
      have hend := parts_end m n hm hn s
      have hgo := parts_go m n hm hn s
      obtain ⟨⟨⟨xk, xn, xs⟩, s1⟩, hR⟩ : ∃ R, R = runC (m : Int) s := ⟨_, rfl⟩
      rw [← hR] at hra hbd hs1 hend hgo
      dsimp only at hra hbd hs1 hend hgo
      have HRA := Aside0.mk hra
      have HEND := Aside0.mk hend
      have HGO := Aside0.mk hgo
      have HS1 := Aside0.mk hs1
      have hx0 := hbd.1
      have hx1 := hbd.2
      clear hra hend hgo hR hs1 hbd
      rcases hd with hd | ⟨hd, hd2⟩
      all_goals (
        go_wp2_with fail
        refine HRA.out.mono ?_
        rintro e w4 ⟨rfl, hT4⟩
        have HTW4 := Aside0.mk (HTW.out.onA hT4)
        have HZ4 := Aside0.mk (show w2.heap.size ≤ w4.heap.size from HTW4.out.hE)
        have HTW5 := Aside0.mk (HTW4.out.below (below_alloc (Below.refl w4.heap.size w4) (.cells #[.int .i64 xk, .int .i64 xn, .int .i64 xs] 53)))
        have hg14 := blk_new w4 (.cells #[.int .i64 xk, .int .i64 xn, .int .i64 xs] 53)
        have HG14 := Aside0.mk hg14
        clear hT4 hg14
        by_cases hxk : xk = 0
        · have hbe := runC_bound n (by omega) s1
          have hrb := run_run HTW5.out.a HTW5.out.hM HS1.out (n : Int)
          have hgo := HGO.out hxk
          obtain ⟨⟨⟨yk, yn, ys⟩, s2⟩, hR⟩ : ∃ R, R = runC (n : Int) s1 := ⟨_, rfl⟩
          rw [← hR] at hrb hgo hbe
          dsimp only at hrb hgo hbe
          have HRB := Aside0.mk hrb
          have HGO2 := Aside0.mk hgo
          have hy0 := hbe.1
          have hy1 := hbe.2
          have wxy : IntKind.i64.wrap (xs + ys) = xs + ys := by rw [IntKind.wrap_i64]; omega
          clear hrb hgo hR hbe
          subst hxk
          go_wp2_with fail
          refine HRB.out.mono ?_
          rintro e w6 ⟨rfl, hT6⟩
          have HG6 := Aside0.mk (HTW5.out.box HG14.out HZ4.out hT6.2.1)
          have HTW6 := Aside0.mk (HTW5.out.onA hT6)
          have HZ6 := Aside0.mk (show w2.heap.size ≤ w6.heap.size from HTW6.out.hE)
          have HTW7 := Aside0.mk (HTW6.out.below (below_alloc (Below.refl w6.heap.size w6) (.cells #[.int .i64 yk, .int .i64 yn, .int .i64 ys] 53)))
          have HG7 := Aside0.mk (blk_alloc HG6.out (.cells #[.int .i64 yk, .int .i64 yn, .int .i64 ys] 53))
          have HH7 := Aside0.mk (blk_new w6 (.cells #[.int .i64 yk, .int .i64 yn, .int .i64 ys] 53))
          clear hT6
          go_wp2_with fail
          have hrc := run_run HTW7.out.b HTW7.out.hE HS.out ((m : Int) + (n : Int))
          rw [HGO2.out] at hrc
          dsimp only at hrc
          refine hrc.mono ?_
          rintro e w8 ⟨rfl, hT8⟩
          have hg8 := HTW7.out.box' HG7.out HZ4.out hT8.2.1
          have hh8 := HTW7.out.box' HH7.out HZ6.out hT8.2.1
          have HTW8 := Aside0.mk (HTW7.out.onB hT8)
          have HTW9 := Aside0.mk (HTW8.out.below (below_alloc (Below.refl w8.heap.size w8) (.cells #[.int .i64 yk, .int .i64 yn, .int .i64 (xs + ys)] 53)))
          have hg9 := blk_alloc hg8 (.cells #[.int .i64 yk, .int .i64 yn, .int .i64 (xs + ys)] 53)
          have hh9 := blk_alloc hh8 (.cells #[.int .i64 yk, .int .i64 yn, .int .i64 (xs + ys)] 53)
          have q2 : (w8.alloc (.cells #[.int .i64 yk, .int .i64 yn, .int .i64 (xs + ys)] 53)).cell? ⟨w4.heap.size, 2, none⟩ = some (.int .i64 xs) := blk_cell hg9 2
          have p0 : (w8.alloc (.cells #[.int .i64 yk, .int .i64 yn, .int .i64 (xs + ys)] 53)).cell? ⟨w6.heap.size, 0, none⟩ = some (.int .i64 yk) := blk_cell hh9 0
          have p1 : (w8.alloc (.cells #[.int .i64 yk, .int .i64 yn, .int .i64 (xs + ys)] 53)).cell? ⟨w6.heap.size, 1, none⟩ = some (.int .i64 yn) := blk_cell hh9 1
          have p2 : (w8.alloc (.cells #[.int .i64 yk, .int .i64 yn, .int .i64 (xs + ys)] 53)).cell? ⟨w6.heap.size, 2, none⟩ = some (.int .i64 ys) := blk_cell hh9 2
          clear hrc hT8 hg8 hh8 hg9 hh9
          go_wp2_with fail
          refine (place_run HTW9.out.a).mono ?_
          rintro e w10 ⟨rfl, rfl⟩
          go_wp2_with fail
          refine (place_run HTW9.out.b).mono ?_
          rintro e w11 ⟨rfl, rfl⟩
          go_wp2_with fail
          refine (flags_run HTW9.out.a).mono ?_
          rintro e w12 ⟨rfl, hb12⟩
          have HTW12 := Aside0.mk (HTW9.out.below hb12)
          clear hb12
          go_wp2_with fail
          refine (flags_run HTW12.out.b).mono ?_
          rintro e w13 ⟨rfl, hb13⟩
          have HTW13 := Aside0.mk (HTW12.out.below hb13)
          clear hb13 q2 p0 p1 p2
          go_wp2_with fail
          go_loopw [18] (fun v18 wq => ∃ (k : Nat), v18 = .int .i64 k ∧ k ≤ 32 ∧ TwoC w wq w1.heap.size w2.heap.size pa Aa ca ba pb Ab cb bb s2 s2) (fun v18 _ => 32 - (intOf v18).toNat)
          case atStart => exact ⟨0, rfl, by omega, HTW13.out⟩
          case round =>
            obtain ⟨j, rfl, hj, htq⟩ := hrel
            have HTQ := Aside0.mk htq
            clear htq
            by_cases hjl : j < 32
            · have hji : (j : Int) < 32 := by omega
              go_wp2_with fail
              refine (reg_run HTQ.out.a (j : Int)).mono ?_
              rintro e w14 ⟨rfl, ⟨m14, rfl⟩⟩
              go_wp2_with fail
              refine (reg_run (regC_run2 HTQ.out m14).b (j : Int)).mono ?_
              rintro e w15 ⟨rfl, ⟨m15, rfl⟩⟩
              have HTQ2 := Aside0.mk (regC_run2 HTQ.out (m14 + m15))
              go_wp2_with fail
              go_roundw
              case rel => exact ⟨j + 1, by go_num, by omega, HTQ2.out⟩
              case measure => simp only [intOf]; omega
            · obtain rfl : j = 32 := by omega
              go_wp2_with fail
              go_ret
              exact ⟨rfl, HTQ.out.lo⟩
        · have nk : (xk != 0) = true := by simpa using hxk
          have hen := HEND.out hxk
          have HEN := Aside0.mk hen
          clear hxk hen
          go_wp2_with fail
          have hrc := run_run HTW5.out.b HTW5.out.hE HS.out ((m : Int) + (n : Int))
          rw [HEN.out] at hrc
          dsimp only at hrc
          refine hrc.mono ?_
          rintro e w6 ⟨rfl, hT6⟩
          have hg6 := HTW5.out.box' HG14.out HZ4.out hT6.2.1
          have HTW6 := Aside0.mk (HTW5.out.onB hT6)
          have hg7 := blk_alloc hg6 (.cells #[.int .i64 xk, .int .i64 xn, .int .i64 xs] 53)
          have q0 : (w6.alloc (.cells #[.int .i64 xk, .int .i64 xn, .int .i64 xs] 53)).cell? ⟨w4.heap.size, 0, none⟩ = some (.int .i64 xk) := blk_cell hg7 0
          have q1 : (w6.alloc (.cells #[.int .i64 xk, .int .i64 xn, .int .i64 xs] 53)).cell? ⟨w4.heap.size, 1, none⟩ = some (.int .i64 xn) := blk_cell hg7 1
          have q2 : (w6.alloc (.cells #[.int .i64 xk, .int .i64 xn, .int .i64 xs] 53)).cell? ⟨w4.heap.size, 2, none⟩ = some (.int .i64 xs) := blk_cell hg7 2
          have HB7 := Aside0.mk (HTW6.out.below (below_alloc (Below.refl w6.heap.size w6) (.cells #[.int .i64 xk, .int .i64 xn, .int .i64 xs] 53))).lo
          clear hrc hT6 hg6 hg7
          go_wp2_with fail
          go_ret
          exact ⟨rfl, HB7.out⟩)

end Go.Proofs.Ytjhgbddcenhkfaa.P
