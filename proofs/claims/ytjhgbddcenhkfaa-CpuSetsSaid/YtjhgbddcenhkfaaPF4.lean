/- Ytjhgbddcenhkfaa: what Go functions come to, and that they do: walks, printed by a program of this session or typed by hand; no statement of the seat stands here. -/
import Derived.Test.YtjhgbddcenhkfaaP0
import Derived.Test.YtjhgbddcenhkfaaPF13
import Derived.Test.YtjhgbddcenhkfaaCpuI
import Derived.Test.YtjhgbddcenhkfaaPF13
namespace Go.Proofs.Ytjhgbddcenhkfaa.P
open Go.RowKit Go.Proofs.YtjhgbddcenhkfaaW.PrintWords Go.Proofs.YtjhgbddcenhkfaaW.PrintLast Go.Proofs.YtjhgbddcenhkfaaW.PrintMore
attribute [local go_sem] max2_int min2_int max_two min_two max_three min_three max_four min_four   -- for this text's walks alone
set_option linter.unusedVariables false
set_option linter.unusedSimpArgs false


/-! ### pianolalaw14_CpuSets: function 4 -/
-- IMPORT Derived.Test.YtjhgbddcenhkfaaCpuI
-- IMPORT Derived.Test.YtjhgbddcenhkfaaPF13
def pianolalaw14_CpuSets.f (_a0 : Int) (_a1 : Int) (a2 : Int) (_a3 : Int) : Option Bool := if -9223372036854775808 ≤ a2 ∧ a2 < 9223372036854775808 then some true else none
theorem C_made (w : World) (n : Nat) (hn : n ≤ 1000000) : Kd.C (Kd.int .u32) (w.alloc (.cells (madeCells #[Value.int .u32 0] n) 46)) (some ⟨w.heap.size, 0, none⟩) n (List.replicate n 0) := by
  have h := own_made w w.heap.size 46 .u32 n (Nat.le_refl _) (by omega)
  obtain ⟨A, c, he, hr⟩ := own_reads_of (enc := Value.int .u32) (d := (0 : Int)) h
  simp only [Value.slice.injEq] at he
  obtain ⟨rfl, _, _⟩ := he
  exact Kd.C_of_reads (h1 := fun _ => rfl) hr
theorem setS_m (s : CS) (i v : Int) : (setS s i v).m = s.m ∧ (setS s i v).ws = s.ws ∧ (setS s i v).pl = s.pl := by
  unfold setS
  split <;> exact ⟨rfl, rfl, rfl⟩
theorem goS_m (s : CS) (i : Int) : (goS s i).m = s.m := by
  unfold goS
  split <;> rfl
theorem setS_reg (s : CS) (i v : Int) (hx : s.x.length = 32) : regC (setS s i v) i = if isReg i = true then v else 0 := by
  by_cases h : isReg i = true
  · rw [if_pos h]
    obtain ⟨j, rfl, hj⟩ := isReg_nat h
    rw [regC_nat _ j hj]
    unfold setS
    rw [if_pos h, Int.toNat_natCast, List.getD_eq_getElem?_getD, List.getElem?_set_self (by omega)]
    rfl
  · rw [if_neg h, regC_no _ _ (by simpa using h)]
set_option maxRecDepth 100000 in
set_option maxHeartbeats 16000000 in
theorem sets_core (n : Nat) (hn : n ≤ 65536) (i v at_ : Int) (hv0 : -9223372036854775808 ≤ v) (hv1 : v < 9223372036854775808) (w : World) :
    Calls Try.prog 4 #[.int .i64 n, .int .i64 i, .int .i64 v, .int .i64 at_] w fun e w' => e = .returned (.bool true) ∧ Below w.heap.size w w' := by
  have hmk := print_make (P := Try.prog) 34 46 .u32 4 Try.underlying34 (by kernel_rfl) (by decide) n (by omega)
  have HMK := Aside0.mk hmk
  clear hmk
  obtain ⟨s0, hs0⟩ : ∃ s0, s0 = newC (List.replicate n 0) 64 := ⟨_, rfl⟩
  have hl0 : s0.ws.length = n := by rw [hs0]; simp [newC]
  have hp0 : s0.pl = 0 := by rw [hs0]; rfl
  have hm0 : ∀ y ∈ s0.m, y = 0 := by rw [hs0]; intro y hy; exact List.eq_of_mem_replicate hy
  have hml : s0.m.length = 64 := by rw [hs0]; simp [newC]
  have hx0 : s0.x.length = 32 := by rw [hs0]; rfl
  have hok0 : okB s0.m := by rw [hs0]; exact (SOK_new (List.replicate n 0) 64 (by simpa using hn)).mok
  obtain ⟨s1, hs1⟩ : ∃ s1, s1 = setS s0 i v := ⟨_, rfl⟩
  obtain ⟨s2, hs2⟩ : ∃ s2, s2 = goS s1 at_ := ⟨_, rfl⟩
  have hgo : mayGo s1 at_ = (decide (0 ≤ at_) && decide (at_ ≤ (n : Int))) := by unfold mayGo; rw [hs1, (setS_m s0 i v).2.1, hl0]
  have hpl2 : s2.pl = if mayGo s1 at_ = true then at_ else 0 := by
    rw [hs2]
    unfold goS
    split
    · rfl
    · rw [hs1, (setS_m s0 i v).2.2, hp0]
  have hm2 : s2.m = s0.m := by rw [hs2, goS_m, hs1, (setS_m s0 i v).1]
  have hmm : mayM s2 at_ = (decide (0 ≤ at_) && (decide (at_ % 8 = 0) && decide (at_ ≤ 56))) := by
    unfold mayM
    rw [hm2, hml]
    congr 2
    apply decide_eq_decide.mpr
    omega
  have hrd2 : rdM s2 at_ = 0 := rd_zeros s2 at_ (by rw [hm2]; exact hm0)
  have hrg : regC s1 i = if isReg i = true then v else 0 := by rw [hs1]; exact setS_reg s0 i v hx0
  have hmw : mayM (wrM s2 at_ v) at_ = mayM s2 at_ := mayM_wr s2 at_ v at_
  have hrw : mayM s2 at_ = true → rdM (wrM s2 at_ v) at_ = v := fun h => rd_wr s2 at_ v h hv0 hv1
  have hok2 : okB s2.m := by rw [hm2]; exact hok0
  have hok3 : okB (wrM s2 at_ v).m := by
    unfold wrM
    split
    · exact lay_ok hok2 _ _ _
    · exact hok2
  have S0 := Aside0.mk hs0
  have S1 := Aside0.mk hs1
  have S2 := Aside0.mk hs2
  have HGO := Aside0.mk hgo
  have HPL := Aside0.mk hpl2
  have HMM := Aside0.mk hmm
  have HRD := Aside0.mk hrd2
  have HRG := Aside0.mk hrg
  have HMW := Aside0.mk hmw
  have HRW := Aside0.mk hrw
  have HOK2 := Aside0.mk hok2
  have HOK3 := Aside0.mk hok3
  clear hs0 hl0 hp0 hm0 hml hx0 hok0 hs1 hs2 hgo hpl2 hm2 hmm hrd2 hrg hmw hrw hok2 hok3
  have hi3 : (i < 0 ∧ isReg i = false) ∨ (0 ≤ i ∧ i ≤ 31 ∧ isReg i = true) ∨ (0 ≤ i ∧ 31 < i ∧ isReg i = false) := by
    unfold isReg
    by_cases h1 : 0 ≤ i
    · by_cases h2 : i ≤ 31
      · exact .inr (.inl ⟨h1, h2, by rw [decide_eq_true h1, decide_eq_true h2]; rfl⟩)
      · exact .inr (.inr ⟨h1, by omega, by rw [decide_eq_false h2, Bool.and_false]⟩)
    · exact .inl ⟨by omega, by rw [decide_eq_false h1, Bool.false_and]⟩
  have hat : (at_ < 0 ∧ mayGo s1 at_ = false ∧ mayM s2 at_ = false) ∨ (0 ≤ at_ ∧ at_ ≤ (n : Int) ∧ at_ ≤ 56 ∧ at_ % 8 = 0 ∧ mayGo s1 at_ = true ∧ mayM s2 at_ = true) ∨ (0 ≤ at_ ∧ at_ ≤ (n : Int) ∧ at_ ≤ 56 ∧ at_ % 8 ≠ 0 ∧ mayGo s1 at_ = true ∧ mayM s2 at_ = false)
      ∨ (0 ≤ at_ ∧ at_ ≤ (n : Int) ∧ 56 < at_ ∧ mayGo s1 at_ = true ∧ mayM s2 at_ = false) ∨ (0 ≤ at_ ∧ (n : Int) < at_ ∧ at_ ≤ 56 ∧ at_ % 8 = 0 ∧ mayGo s1 at_ = false ∧ mayM s2 at_ = true) ∨ (0 ≤ at_ ∧ (n : Int) < at_ ∧ at_ ≤ 56 ∧ at_ % 8 ≠ 0 ∧ mayGo s1 at_ = false ∧ mayM s2 at_ = false)
      ∨ (0 ≤ at_ ∧ (n : Int) < at_ ∧ 56 < at_ ∧ mayGo s1 at_ = false ∧ mayM s2 at_ = false) := by
    rw [HGO.out, HMM.out]
    by_cases h1 : 0 ≤ at_ <;> by_cases h2 : at_ ≤ (n : Int) <;> by_cases h3 : at_ ≤ 56 <;> by_cases h4 : at_ % 8 = 0 <;> simp [h1, h2, h3, h4] <;> omega
  have key : ∀ (bi bg bm : Bool), isReg i = bi → mayGo s1 at_ = bg → mayM s2 at_ = bm → ((i < 0 ∧ bi = false) ∨ (0 ≤ i ∧ i ≤ 31 ∧ bi = true) ∨ (0 ≤ i ∧ 31 < i ∧ bi = false)) →
      ((at_ < 0 ∧ bg = false ∧ bm = false) ∨ (0 ≤ at_ ∧ at_ ≤ (n : Int) ∧ at_ ≤ 56 ∧ at_ % 8 = 0 ∧ bg = true ∧ bm = true) ∨ (0 ≤ at_ ∧ at_ ≤ (n : Int) ∧ at_ ≤ 56 ∧ at_ % 8 ≠ 0 ∧ bg = true ∧ bm = false)
      ∨ (0 ≤ at_ ∧ at_ ≤ (n : Int) ∧ 56 < at_ ∧ bg = true ∧ bm = false) ∨ (0 ≤ at_ ∧ (n : Int) < at_ ∧ at_ ≤ 56 ∧ at_ % 8 = 0 ∧ bg = false ∧ bm = true) ∨ (0 ≤ at_ ∧ (n : Int) < at_ ∧ at_ ≤ 56 ∧ at_ % 8 ≠ 0 ∧ bg = false ∧ bm = false)
      ∨ (0 ≤ at_ ∧ (n : Int) < at_ ∧ 56 < at_ ∧ bg = false ∧ bm = false)) →
      Calls Try.prog 4 #[.int .i64 n, .int .i64 i, .int .i64 v, .int .i64 at_] w fun e w' => e = .returned (.bool true) ∧ Below w.heap.size w w' := by
    intro bi bg bm h1 h2 h3 hI hA
    have HI := Aside0.mk h1
    have HG := Aside0.mk h2
    have HM := Aside0.mk h3
    clear h1 h2 h3 hi3 hat
    have hn0 : ¬ (n : Int) < 0 := by omega
    have hn1 : ¬ (n : Int) > 70000 := by omega
    have hn2 : ¬ (n : Int) > 65536 := by omega
    have hn3 : n < 4294967296 := by omega
    rcases hI with ⟨i1, rfl⟩ | ⟨i1, i2, rfl⟩ | ⟨i1, i2, rfl⟩ <;> rcases hA with ⟨a1, rfl, rfl⟩ | ⟨a1, a2, a3, a4, rfl, rfl⟩ | ⟨a1, a2, a3, a4, rfl, rfl⟩ | ⟨a1, a2, a3, rfl, rfl⟩ | ⟨a1, a2, a3, a4, rfl, rfl⟩ | ⟨a1, a2, a3, a4, rfl, rfl⟩ | ⟨a1, a2, a3, rfl, rfl⟩
    all_goals
      as_aux_lemma =>
        have hmk := HMK.out
        first
          | (have b8 : (at_ % 8 == 0) = true := by simpa using a4)
          | (have b8 : (at_ % 8 == 0) = false := by simpa using a4)
          | skip
        go_enter Try.func4, Try.ntmps4
        go_wp2_with fail
        have hnr := new_run (w.alloc (.cells (madeCells #[Value.int .u32 0] n) 46)) (some ⟨w.heap.size, 0, none⟩) n (List.replicate n 0) (by rw [List.length_replicate]; exact C_made w n (by omega)) (by rw [List.length_replicate]; exact Nat.le_refl _) (by rw [List.length_replicate]; exact hn) 64 (by decide)
        rw [List.length_replicate, ← S0.out] at hnr
        refine hnr.mono ?_
        rintro e w1 ⟨p, A, c, bm', rfl, hO, hb⟩
        have hz1 : w.heap.size ≤ (w.alloc (.cells (madeCells #[Value.int .u32 0] n) 46)).heap.size := by simp only [World.size_alloc]; omega
        have HZ1 := Aside0.mk hz1
        have HB1 := Aside0.mk (show Below w.heap.size w w1 from (below_alloc (Below.refl _ _) _).trans (hb.mono hz1))
        have HO1 := Aside0.mk hO
        clear hnr hb hO hmk hz1
        go_wp2_with fail
        refine (pianolalaw14_lives.calls true _ rfl).mono ?_
        rintro e w2 ⟨rfl, hb2⟩
        have HB2 := Aside0.mk (below_step HB1.out hb2)
        have HO2 := Aside0.mk (HO1.out.below hb2)
        clear hb2
        go_wp2_with fail
        have hset := set_run HO2.out i v
        rw [HI.out, ← S1.out] at hset
        simp only [Bool.false_eq_true, if_false, if_true] at hset
        refine hset.mono ?_
        rintro e w3 ⟨rfl, hT3⟩
        have HT3 := Aside0.mk hT3.1
        have HB3 := Aside0.mk (HB2.out.trans (hT3.2.2.mono HZ1.out))
        clear hset hT3
        go_wp2_with fail
        have hreg := reg_run HT3.out i
        rw [HRG.out, HI.out] at hreg
        simp only [Bool.false_eq_true, if_false, if_true] at hreg
        refine hreg.mono ?_
        rintro e w4 ⟨rfl, ⟨m4, rfl⟩⟩
        clear hreg
        go_wp2_with fail
        have hgo := go_run (HT3.out.drewN m4) at_
        rw [HG.out, ← S2.out] at hgo
        simp only [Bool.false_eq_true, if_false, if_true] at hgo
        refine hgo.mono ?_
        rintro e w5 ⟨rfl, hT5⟩
        have HT5 := Aside0.mk hT5.1
        have HB5 := Aside0.mk ((below_dN0 HB3.out m4).trans (hT5.2.2.mono HZ1.out))
        clear hgo hT5
        go_wp2_with fail
        have hpl := place_run HT5.out
        rw [HPL.out, HG.out] at hpl
        simp only [Bool.false_eq_true, if_false, if_true] at hpl
        refine hpl.mono ?_
        rintro e w6 ⟨rfl, rfl⟩
        clear hpl
        go_wp2_with fail
        have hrd := read_run HT5.out HOK2.out at_
        rw [HRD.out, HM.out] at hrd
        refine hrd.mono ?_
        rintro e w7 ⟨rfl, rfl⟩
        clear hrd
        go_wp2_with fail
        have hwr := write_run HT5.out at_ v
        rw [HM.out] at hwr
        refine hwr.mono ?_
        rintro e w8 ⟨rfl, hT8⟩
        have HT8 := Aside0.mk hT8.1
        have HB8 := Aside0.mk (HB5.out.trans (hT8.2.2.mono HZ1.out))
        clear hwr hT8
        go_wp2_with fail
        have hr2 := read_run HT8.out HOK3.out at_
        rw [HMW.out, HM.out] at hr2
        first
          | (rw [HRW.out HM.out] at hr2)
          | (obtain ⟨u, hu⟩ : ∃ u, u = rdM (wrM s2 at_ v) at_ := ⟨_, rfl⟩; rw [← hu] at hr2; clear hu)
        refine hr2.mono ?_
        rintro e w9 ⟨rfl, rfl⟩
        clear hr2
        go_wp2_with fail
        go_ret
        exact ⟨rfl, HB8.out⟩
  rcases hi3 with h | h | h
  all_goals exact key _ _ _ rfl rfl rfl (by first | exact .inl h | exact .inr (.inl h) | exact .inr (.inr h)) hat
set_option maxRecDepth 100000 in
set_option maxHeartbeats 4000000 in
theorem pianolalaw14_CpuSets.calls (a0 : Int) (a1 : Int) (a2 : Int) (a3 : Int) (r : Bool) (w : World) (h : pianolalaw14_CpuSets.f a0 a1 a2 a3 = some r) :
    Calls Try.prog 4 #[.int .i64 a0, .int .i64 a1, .int .i64 a2, .int .i64 a3] w fun e w' => e = .returned (.bool r) ∧ Below w.heap.size w w' := by
  have hv : -9223372036854775808 ≤ a2 ∧ a2 < 9223372036854775808 := by
    unfold pianolalaw14_CpuSets.f at h
    split at h
    · assumption
    · cases h
  obtain rfl : r = true := by
    unfold pianolalaw14_CpuSets.f at h
    rw [if_pos hv] at h
    exact (Option.some.inj h).symm
  clear h
  by_cases h1 : a0 < 0
  · go_enter Try.func4, Try.ntmps4
    go_wp2_with fail
    refine (pianolalaw14_lives.calls true _ rfl).mono ?_
    rintro e w2 ⟨rfl, hb2⟩
    have HB2 := Aside0.mk hb2
    clear hb2
    go_wp2_with fail
    go_ret
    exact ⟨rfl, HB2.out⟩
  · obtain ⟨n, rfl⟩ := Int.eq_ofNat_of_zero_le (show 0 ≤ a0 by omega)
    by_cases h2 : n > 70000
    · have h3 : (n : Int) > 70000 := by omega
      go_enter Try.func4, Try.ntmps4
      go_wp2_with fail
      refine (pianolalaw14_lives.calls true _ rfl).mono ?_
      rintro e w2 ⟨rfl, hb2⟩
      have HB2 := Aside0.mk hb2
      clear hb2
      go_wp2_with fail
      go_ret
      exact ⟨rfl, HB2.out⟩
    · by_cases h4 : n ≤ 65536
      · exact sets_core n h4 a1 a2 a3 hv.1 hv.2 w
      · have hmk := print_make (P := Try.prog) 34 46 .u32 4 Try.underlying34 (by kernel_rfl) (by decide) n (by omega)
        have h5 : ¬ (n : Int) > 70000 := by omega
        have h6 : (n : Int) > 65536 := by omega
        go_enter Try.func4, Try.ntmps4
        go_wp2_with fail
        refine (new_long _ (some ⟨w.heap.size, 0, none⟩) n n 64 (by omega)).mono ?_
        rintro e w1 ⟨rfl, rfl⟩
        go_wp2_with fail
        refine (pianolalaw14_lives.calls true _ rfl).mono ?_
        rintro e w2 ⟨rfl, hb2⟩
        have HB2 := Aside0.mk (below_step (below_alloc (Below.refl w.heap.size w) _) hb2)
        clear hb2 hmk
        go_wp2_with fail
        go_ret
        exact ⟨rfl, HB2.out⟩

end Go.Proofs.Ytjhgbddcenhkfaa.P
