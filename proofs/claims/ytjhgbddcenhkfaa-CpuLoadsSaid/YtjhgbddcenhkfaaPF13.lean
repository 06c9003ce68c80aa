/- Ytjhgbddcenhkfaa: what Go functions come to, and that they do: walks, printed by a program of this session or typed by hand; no statement of the seat stands here. -/
import Derived.Test.YtjhgbddcenhkfaaP0
import Derived.Test.YtjhgbddcenhkfaaCpuI
namespace Go.Proofs.Ytjhgbddcenhkfaa.P
open Go.RowKit Go.Proofs.YtjhgbddcenhkfaaW.PrintWords Go.Proofs.YtjhgbddcenhkfaaW.PrintLast Go.Proofs.YtjhgbddcenhkfaaW.PrintMore
attribute [local go_sem] max2_int min2_int max_two min_two max_three min_three max_four min_four   -- for this text's walks alone
set_option linter.unusedVariables false
set_option linter.unusedSimpArgs false


/-! ### pianolalaw14_lives: function 13 -/
-- IMPORT Derived.Test.YtjhgbddcenhkfaaCpuI
def pianolalaw14_lives.f : Option Bool := some true
theorem lives_run : (runC 9 (newC [3531604192, 3556769889] 16)).1 = (2, 3, 2) := by kernel_rfl
theorem lives_pl : (runC 9 (newC [3531604192, 3556769889] 16)).2.pl = 2 := by kernel_rfl
theorem lives_reg : regC (runC 9 (newC [3531604192, 3556769889] 16)).2 0 = 7 := by kernel_rfl
theorem lives_m8 : mayM (runC 9 (newC [3531604192, 3556769889] 16)).2 8 = true := by kernel_rfl
theorem lives_m9 : mayM (wrM (runC 9 (newC [3531604192, 3556769889] 16)).2 8 (-2)) 9 = false := by kernel_rfl
theorem lives_hold : hold 1 false false false false = true := by kernel_rfl
theorem C_new (k : IntKind) (e : TypeId) (w : World) (xs : List Int) (hn : xs.length ≤ 100) : Kd.C (Kd.int k) (w.alloc (.cells (encs (Value.int k) xs).toArray e)) (some ⟨w.heap.size, 0, none⟩) xs.length xs := by
  have h := own_lit_of (enc := Value.int k) w w.heap.size e xs (Nat.le_refl _) (by omega)
  obtain ⟨A, c, he, hr⟩ := own_reads_of (d := (0 : Int)) h
  simp only [Value.slice.injEq] at he
  obtain ⟨rfl, _, _⟩ := he
  exact Kd.C_of_reads (h1 := fun _ => rfl) hr
theorem below_size' {w w1 : World} {a : Obj} {T : TypeId} {E p : Nat} {A : Option Addr} {c bm : Nat} {s : CS} (h : Below w.heap.size w w1) (hO : COK w1 T (w.alloc a).heap.size E p A c bm s) : w.heap.size ≤ (w.alloc a).heap.size := by simp only [World.size_alloc]; omega
set_option maxRecDepth 100000 in
set_option maxHeartbeats 2000000 in
theorem pianolalaw14_lives.calls (r : Bool) (w : World) (h : pianolalaw14_lives.f = some r) :
    Calls Try.prog 13 #[] w fun e w' => e = .returned (.bool r) ∧ Below w.heap.size w w' := by
  obtain rfl : r = true := (Option.some.inj h).symm
  clear h
  have hq : ∀ W, (binOp .eql 53 (.agg #[.int .i64 2, .int .i64 3, .int .i64 2]) (.agg #[.int .i64 2, .int .i64 3, .int .i64 2])).run Try.prog W = .ok (.bool true) W := fun _ => by kernel_rfl
  go_enter Try.func13, Try.ntmps13
  go_wp2_with fail
  have hn := new_run (w.alloc (.cells #[.int .u32 3531604192, .int .u32 3556769889] 46)) (some ⟨w.heap.size, 0, none⟩) 2 [3531604192, 3556769889] (C_new .u32 46 w [3531604192, 3556769889] (by decide)) (by decide) (by decide) 16 (by decide)
  refine hn.mono ?_
  rintro e w1 ⟨p, A, c, bm, rfl, hO, hb⟩
  have HB1 := Aside0.mk (show Below w.heap.size w w1 from (below_alloc (Below.refl _ _) _).trans (hb.mono (by simp only [World.size_alloc]; omega)))
  have HO1 := Aside0.mk hO
  clear hn hb hO
  go_wp2_with fail
  refine (new_arg w1 none 0 0 (-1) (by decide) (.inl (by decide))).mono ?_
  rintro e w2 ⟨rfl, rfl⟩
  go_wp2_with fail
  have hr := run_run HO1.out (Nat.le_refl _) (SOK_new [3531604192, 3556769889] 16 (by decide)) 9
  rw [lives_run] at hr
  obtain ⟨s1, hs1⟩ : ∃ s1, s1 = (runC 9 (newC [3531604192, 3556769889] 16)).2 := ⟨_, rfl⟩
  have hpl := lives_pl
  have hrg := lives_reg
  have hm8 := lives_m8
  have hm9 := lives_m9
  rw [← hs1] at hr hpl hrg hm8 hm9
  have HR := Aside0.mk hr
  have HPL := Aside0.mk hpl
  have HRG := Aside0.mk hrg
  have HM := Aside0.mk (And.intro hm8 hm9)
  clear hr hs1 hpl hrg hm8 hm9
  refine HR.out.mono ?_
  rintro e w3 ⟨rfl, hT3⟩
  have HT3 := Aside0.mk hT3
  clear hT3
  go_wp2_with fail
  refine (reg_run HT3.out.1 0).mono ?_
  rintro e w4 ⟨rfl, ⟨m4, rfl⟩⟩
  rw [HRG.out]
  go_wp2_with fail
  refine (place_run (HT3.out.1.drewN m4)).mono ?_
  rintro e w5 ⟨rfl, rfl⟩
  rw [HPL.out]
  go_wp2_with fail
  refine (write_run (HT3.out.1.drewN m4) 8 (-2)).mono ?_
  rintro e w6 ⟨rfl, hT6⟩
  rw [HM.out.1]
  have HT6 := Aside0.mk (hT6.1)
  have HB6 := Aside0.mk (show Below w.heap.size w w6 from HB1.out.trans ((HT3.out.2.2.mono (below_size' HB1.out HO1.out)).trans ((below_dN0 (Below.refl _ w3) m4).trans (hT6.2.2.mono (below_size' HB1.out HO1.out)))))
  clear hT6
  go_wp2_with fail
  refine (write_run HT6.out 9 1).mono ?_
  rintro e w7 ⟨rfl, hT7⟩
  rw [HM.out.2]
  have HB7 := Aside0.mk (show Below w.heap.size w w7 from HB6.out.trans (hT7.2.2.mono (below_size' HB1.out HO1.out)))
  clear hT7
  go_wp2_with fail
  refine (hold_run 1 false false false false _).mono ?_
  rintro e w8 ⟨rfl, hb8⟩
  rw [lives_hold]
  have HB8 := Aside0.mk (below_step HB7.out hb8)
  clear hb8
  go_wp2_with fail
  go_ret
  exact ⟨rfl, HB8.out⟩

end Go.Proofs.Ytjhgbddcenhkfaa.P
