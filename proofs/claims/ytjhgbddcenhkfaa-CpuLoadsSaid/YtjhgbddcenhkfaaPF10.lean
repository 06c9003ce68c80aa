/- Ytjhgbddcenhkfaa: what Go functions come to, and that they do: walks, printed by a program of this session or typed by hand; no statement of the seat stands here. -/
import Derived.Test.YtjhgbddcenhkfaaP0
import Derived.Test.YtjhgbddcenhkfaaPF13
import Derived.Test.YtjhgbddcenhkfaaPF32
import Derived.Test.YtjhgbddcenhkfaaCpuW
import Derived.Test.YtjhgbddcenhkfaaPF13
namespace Go.Proofs.Ytjhgbddcenhkfaa.P
open Go.RowKit Go.Proofs.YtjhgbddcenhkfaaW.PrintWords Go.Proofs.YtjhgbddcenhkfaaW.PrintLast Go.Proofs.YtjhgbddcenhkfaaW.PrintMore
attribute [local go_sem] max2_int min2_int max_two min_two max_three min_three max_four min_four   -- for this text's walks alone
set_option linter.unusedVariables false
set_option linter.unusedSimpArgs false


/-! ### pianolalaw14_CpuLoads: function 10 -/
-- IMPORT Derived.Test.YtjhgbddcenhkfaaCpuW
-- IMPORT Derived.Test.YtjhgbddcenhkfaaPF13
def pianolalaw14_CpuLoads.f (_a0 a1 : Int) (_l2 : List Int) : Option Bool := if -9223372036854775808 ≤ a1 ∧ a1 < 9223372036854775808 then some true else none
def loadsP (w : World) (e : Ending) (w' : World) : Prop := e = .returned (.bool true) ∧ Below w.heap.size w w'
set_option maxRecDepth 100000 in
set_option maxHeartbeats 8000000 in
theorem loads_walk (A2 : Option Addr) (c2 : Nat) (l2 : List Int) (a0 a1 : Int) (w : World) (hr2 : Kd.C (Kd.int .i64) w A2 l2.length l2) (hc2 : l2.length ≤ c2) (hb0 : -9223372036854775808 ≤ a1) (hb1 : a1 < 9223372036854775808) :
    Calls Try.prog 10 #[.int .i64 a0, .int .i64 a1, .slice A2 l2.length c2] w (loadsP w) := by
  by_cases h1 : a0 < 0
  · go_enter Try.func10, Try.ntmps10
    go_wp2_with fail
    refine (pianolalaw14_lives.calls true _ rfl).mono ?_
    rintro e w2 ⟨rfl, hb2⟩
    have HB2 := Aside0.mk hb2
    clear hb2
    go_wp2_with fail
    go_ret
    exact ⟨rfl, HB2.out⟩
  by_cases h2 : a0 > 30
  · go_enter Try.func10, Try.ntmps10
    go_wp2_with fail
    refine (pianolalaw14_lives.calls true _ rfl).mono ?_
    rintro e w2 ⟨rfl, hb2⟩
    have HB2 := Aside0.mk hb2
    clear hb2
    go_wp2_with fail
    go_ret
    exact ⟨rfl, HB2.out⟩
  obtain ⟨l, ws, K, s, hL⟩ := load_runs a0 a1 l2 (by omega) (by omega) hb0 hb1
  have HL := Aside0.mk hL
  have hs := SOK_regs l2 (min l2.length 31) (SOK_new ws 256 (by have := hL.len; omega))
  have HS := Aside0.mk hs
  have HR2 := Aside0.mk hr2
  have hmx := Kd.C_max hr2
  have hll : l.length ≤ 4 := hL.ll
  have hne : ∀ W, (binOp .eql 23 (.agg #[.bool false, .bool false, .bool false, .bool false]) (.agg #[.bool false, .bool false, .bool false, .bool false])).run Try.prog W = .ok (.bool true) W := fun _ => by kernel_rfl
  have hfld : ∀ v W, (Instr.field 53 (.agg #[.int .i64 1, .int .i64 0, v]) 2).run Try.prog W = .ok v W := fun _ _ => by kernel_rfl
  have hu2 := Try.underlying23
  clear hL hs hr2 hb0 hb1
  go_enter Try.func10, Try.ntmps10
  go_wp2_with fail
  refine (encode_Load.calls a0 a1 l w HL.out.load).mono ?_
  rintro e w1 ⟨v1, rfl, hv1, hb1⟩
  have HB1 := Aside0.mk hb1
  obtain ⟨A1, c1, rfl, hc1, hC1⟩ := Kd.R_reads hv1
  have HC1 := Aside0.mk hC1
  clear hb1 hv1 hC1
  go_wp2_with fail
  refine (processor_run K w1 A1 c1 l A2 c2 l2 HC1.out hc1 (Kd.C_below HR2.out HB1.out) hc2 ws _ HL.out.all (by have := HL.out.len; omega)).mono ?_
  rintro e w2 ⟨p, A, cc, bm, rfl, hO, hb2⟩
  have HB2 := Aside0.mk (HB1.out.trans (hb2.mono HB1.out.size))
  have HO2 := Aside0.mk (hO.lower HB1.out.size)
  clear hb2 hO HB1
  go_wp2_with fail
  refine (pianolalaw14_lives.calls true _ rfl).mono ?_
  rintro e w3 ⟨rfl, hb3⟩
  have HB3 := Aside0.mk (HB2.out.trans (hb3.mono HB2.out.size))
  have HO3 := Aside0.mk (HO2.out.below hb3)
  have HZ3 := Aside0.mk hb3.size
  clear hb3 HB2 HO2
  go_wp2_with fail
  have hrun := run_run HO3.out HZ3.out HS.out 9
  rw [HL.out.run] at hrun
  refine hrun.mono ?_
  rintro e w4 ⟨rfl, hT4⟩
  have HB4 := Aside0.mk (HB3.out.trans hT4.2.2)
  have HO4 := Aside0.mk hT4.1
  clear hT4 hrun HB3 HO3 HZ3
  go_wp2_with fail
  refine (reg_run HO4.out a0).mono ?_
  rintro e w5 ⟨rfl, ⟨n5, rfl⟩⟩
  rw [HL.out.got]
  go_wp2_with fail
  go_loopw [9] (fun v9 wr => ∃ (k m : Nat), v9 = .int .i64 k ∧ k ≤ 31 ∧ wr = w4.drewN m) (fun v9 _ => 31 - (intOf v9).toNat)
  case atStart => exact ⟨0, n5, rfl, by omega, rfl⟩
  case round =>
    obtain ⟨k, m, rfl, hk, rfl⟩ := hrel
    have HOk := Aside0.mk (HO4.out.drewN m)
    have HBk := Aside0.mk (below_dN0 HB4.out m)
    by_cases hlt : k < 31
    · have hi2 : (k : Int) < 31 := by omega
      have hot := HL.out.other k hlt
      have HOT := Aside0.mk hot
      clear hot
      by_cases hin : k < l2.length
      · have hi1 : (k : Int) < (l2.length : Int) := by omega
        obtain ⟨ad, rfl, hc⟩ := Kd.at_int (Kd.C_below HR2.out HBk.out) (k : Int) (by omega) (by omega)
        rw [Int.toNat_natCast] at hc
        obtain ⟨v, hv⟩ : ∃ v, v = rd l2 (k : Int) := ⟨_, rfl⟩
        rw [← hv] at hc
        have HV := Aside0.mk hv
        clear hv
        by_cases he : (k : Int) = a0
        · have heb : ((k : Int) == a0) = true := by simpa using he
          have hnb : ((k : Int) != a0) = false := by simpa using he
          have HE := Aside0.mk he
          clear he
          go_wp2_with fail
          go_roundw
          case rel => exact ⟨k + 1, m, by go_num, by omega, rfl⟩
          case measure => simp only [intOf]; omega
        · have hnb : ((k : Int) != a0) = true := by simpa using he
          have heb : ((k : Int) == a0) = false := by simpa using he
          have HE := Aside0.mk he
          clear he
          go_wp2_with fail
          have hrg := reg_run HOk.out (k : Int)
          rw [HOT.out HE.out, if_pos hin, ← HV.out] at hrg
          refine hrg.mono ?_
          rintro e w6 ⟨rfl, ⟨n6, rfl⟩⟩
          clear hrg
          go_wp2_with fail
          go_roundw
          case rel => exact ⟨k + 1, m + n6, by go_num, by omega, rfl⟩
          case measure => simp only [intOf]; omega
      · have hi1 : ¬ (k : Int) < (l2.length : Int) := by omega
        by_cases he : (k : Int) = a0
        · have heb : ((k : Int) == a0) = true := by simpa using he
          have hnb : ((k : Int) != a0) = false := by simpa using he
          have HE := Aside0.mk he
          clear he
          go_wp2_with fail
          go_roundw
          case rel => exact ⟨k + 1, m, by go_num, by omega, rfl⟩
          case measure => simp only [intOf]; omega
        · have hnb : ((k : Int) != a0) = true := by simpa using he
          have heb : ((k : Int) == a0) = false := by simpa using he
          have HE := Aside0.mk he
          clear he
          go_wp2_with fail
          have hrg := reg_run HOk.out (k : Int)
          rw [HOT.out HE.out, if_neg hin] at hrg
          refine hrg.mono ?_
          rintro e w6 ⟨rfl, ⟨n6, rfl⟩⟩
          clear hrg
          go_wp2_with fail
          go_roundw
          case rel => exact ⟨k + 1, m + n6, by go_num, by omega, rfl⟩
          case measure => simp only [intOf]; omega
    · have hi2 : ¬ (k : Int) < 31 := by omega
      go_wp2_with fail
      have hfl := flags_run HOk.out
      rw [HL.out.f1, HL.out.f2, HL.out.f3, HL.out.f4] at hfl
      refine hfl.mono ?_
      rintro e w7 ⟨rfl, hb7⟩
      have HB7 := Aside0.mk (HBk.out.trans (hb7.mono HBk.out.size))
      clear hfl hb7
      go_wp2_with fail
      go_ret
      exact ⟨rfl, HB7.out⟩
theorem pianolalaw14_CpuLoads.calls (a0 a1 : Int) (A2 : Option Addr) (c2 : Nat) (l2 : List Int) (r : Bool) (w : World) (hr2 : Kd.C (Kd.int .i64) w A2 l2.length l2) (hc2 : l2.length ≤ c2) (h : pianolalaw14_CpuLoads.f a0 a1 l2 = some r) :
    Calls Try.prog 10 #[.int .i64 a0, .int .i64 a1, .slice A2 l2.length c2] w fun e w' => e = .returned (.bool r) ∧ Below w.heap.size w w' := by
  unfold pianolalaw14_CpuLoads.f at h
  split at h
  · rename_i hb
    obtain rfl : r = true := (Option.some.inj h).symm
    exact loads_walk A2 c2 l2 a0 a1 w hr2 hc2 hb.1 hb.2
  · exact absurd h (by simp)

end Go.Proofs.Ytjhgbddcenhkfaa.P
