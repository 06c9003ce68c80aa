/- Ytjhgbddcenhkfaa: what Go functions come to, and that they do: walks, printed by a program of this session or typed by hand; no statement of the seat stands here. -/
import Derived.Test.YtjhgbddcenhkfaaP0
import Derived.Test.YtjhgbddcenhkfaaPF13
import Derived.Test.YtjhgbddcenhkfaaPF31
import Derived.Test.YtjhgbddcenhkfaaCpuU
import Derived.Test.YtjhgbddcenhkfaaPF13
import Derived.Test.YtjhgbddcenhkfaaPF31
namespace Go.Proofs.Ytjhgbddcenhkfaa.P
open Go.RowKit Go.Proofs.YtjhgbddcenhkfaaW.PrintWords Go.Proofs.YtjhgbddcenhkfaaW.PrintLast Go.Proofs.YtjhgbddcenhkfaaW.PrintMore
attribute [local go_sem] max2_int min2_int max_two min_two max_three min_three max_four min_four   -- for this text's walks alone
set_option linter.unusedVariables false
set_option linter.unusedSimpArgs false


/-! ### pianolalaw14_CpuReckons: function 9 -/
-- IMPORT Derived.Test.YtjhgbddcenhkfaaCpuU
-- IMPORT Derived.Test.YtjhgbddcenhkfaaPF13
-- IMPORT Derived.Test.YtjhgbddcenhkfaaPF31
def pianolalaw14_CpuReckons.f (a0 a1 a2 : Int) : Option Bool := if -9223372036854775808 ≤ a0 ∧ a0 < 9223372036854775808 ∧ -9223372036854775808 ≤ a2 ∧ a2 < 9223372036854775808 then some true else none
theorem C_one {w : World} {g : Nat} {x : Ins} (hb : w.heap[g]? = some (.cells (insL x).toArray 61 (0, 0))) : Kd.C k61 w (some ⟨g, 0, none⟩) 1 [x] :=
  ReadsRow.imp_ (row_one hb) (Below.refl _ _) (fun p c h => by subst h; exact k61_mk _ _)
theorem two_blocks (W : World) (g : Nat) (hg : W.heap.size = g) (x : Ins) (a b : Int) :
    Kd.C k61 ((W.alloc (.cells (insL x).toArray 61)).alloc (.cells #[.int .i64 a, .int .i64 b] 3)) (some ⟨g, 0, none⟩) 1 [x] ∧
    Kd.C (Kd.int .i64) ((W.alloc (.cells (insL x).toArray 61)).alloc (.cells #[.int .i64 a, .int .i64 b] 3)) (some ⟨g + 1, 0, none⟩) 2 [a, b] := by
  subst hg
  refine ⟨C_one (blk_alloc (blk_new W _) _), ?_⟩
  have h := C_new .i64 3 (W.alloc (.cells (insL x).toArray 61)) [a, b] (show 2 ≤ 100 by omega)
  rw [World.size_alloc] at h
  exact h
def reckP (w : World) (e : Ending) (w' : World) : Prop := e = .returned (.bool true) ∧ Below w.heap.size w w'
set_option maxRecDepth 100000 in
set_option maxHeartbeats 64000000 in
theorem reckons_walk0 (a b c : Int) (ht : Int.tmod c 9 = 0) (ha : -9223372036854775808 ≤ a) (ha1 : a < 9223372036854775808) (w : World) :
    Calls Try.prog 9 #[.int .i64 a, .int .i64 b, .int .i64 c] w (reckP w) := by
  obtain ⟨W, v, ok, s, hR⟩ := reckons 0 (by decide) a b ha ha1
  have HR := Aside0.mk hR
  have hs := SOK_regs [a, b] 2 (SOK_new [W] 256 (show 1 ≤ 65536 by omega))
  have HS := Aside0.mk hs
  have hne : ∀ W, (binOp .neq 53 (.agg #[.int .i64 1, .int .i64 0, .int .i64 1]) (.agg #[.int .i64 1, .int .i64 0, .int .i64 1])).run Try.prog W = .ok (.bool false) W := fun _ => by kernel_rfl
  have hu := Try.underlying53
  clear hR hs ha ha1
  go_enter Try.func9, Try.ntmps9
  go_wp2_with fail
  have HBK := Aside0.mk (blk_alloc (blk_alloc (blk_alloc (blk_alloc (blk_new w (.cells #[.int .i64 8, .int .i64 9, .int .i64 10, .int .i64 11, .int .i64 13, .int .i64 14, .int .i64 15, .int .i64 16, .int .i64 17] 3)) (.cells #[.int .i64 1, .int .i64 2, .int .i64 11, .int .i64 13, .int .i64 7, .int .i64 8, .int .i64 9, .int .i64 14, .int .i64 15] 3)) (.cells (insL (insK 0)).toArray 61)) (.cells (insL (insK 0)).toArray 61)) (.cells #[.int .i64 a, .int .i64 b] 3))
  refine (processor_run 10 _ (some ⟨w.heap.size + 1 + 1 + 1, 0, none⟩) 1 [insK _] (some ⟨w.heap.size + 1 + 1 + 1 + 1, 0, none⟩) 2 [a, b] (two_blocks _ _ (by simp only [World.size_alloc]) _ a b).1 (Nat.le_refl 1) (two_blocks _ _ (by simp only [World.size_alloc]) _ a b).2 (Nat.le_refl 2) [W] 1 HR.out.all (show 1 ≤ 65536 by omega)).mono ?_
  rintro e w1 ⟨p, A, cc, bm, rfl, hO, hb⟩
  have HB1 := Aside0.mk (show Below w.heap.size w w1 from (below_alloc (below_alloc (below_alloc (below_alloc (below_alloc (Below.refl _ w) _) _) _) _) _).trans (hb.mono (by simp only [World.size_alloc]; omega)))
  have HQ1 := Aside0.mk (blk_below HBK.out hb)
  have HO1 := Aside0.mk (show COK w1 69 (w.heap.size + 1) w1.heap.size p A cc bm (setRegs [a, b] 2 (newC [W] 256)) from hO.lower (by simp only [World.size_alloc]; omega))
  clear hb hO HBK
  go_wp2_with fail
  refine (pianolalaw14_lives.calls true _ rfl).mono ?_
  rintro e w2 ⟨rfl, hb2⟩
  have HB2 := Aside0.mk (HB1.out.trans (hb2.mono HB1.out.size))
  have HQ2 := Aside0.mk (blk_below HQ1.out hb2)
  have HO2 := Aside0.mk (HO1.out.below hb2)
  have HZ2 := Aside0.mk hb2.size
  clear hb2 HB1 HQ1 HO1
  go_wp2_with fail
  have hrun := run_run HO2.out HZ2.out HS.out 5
  rw [HR.out.run] at hrun
  refine hrun.mono ?_
  rintro e w3 ⟨rfl, hT3⟩
  have HB3 := Aside0.mk (HB2.out.trans (hT3.2.2.mono (by omega)))
  have HO3 := Aside0.mk hT3.1
  have HQ3 := Aside0.mk (show w3.heap[w.heap.size]? = _ from (hT3.2.1.2 w.heap.size (blk_lt HQ2.out) (by have h1 := HO2.out.lp; have h2 := HO2.out.lm; unfold CB; omega)).trans HQ2.out)
  clear hT3 hrun HB2 HQ2 HO2 HZ2
  have hq := blk_cell HQ3.out 0
  go_wp2_with fail
  refine (pianolaref11_Reckon.calls 5 (recOp 0) a b v ok w3 HR.out.rec_).mono ?_
  rintro e w4 ⟨rfl, hd4⟩
  obtain ⟨n4, rfl⟩ := hd4.out
  clear hd4 hq
  have HO4 := Aside0.mk (HO3.out.drewN n4)
  have HB4 := Aside0.mk (below_dN0 HB3.out n4)
  cases ok
  · go_wp2_with fail
    refine (reg_run HO4.out 2).mono ?_
    rintro e w5 ⟨rfl, ⟨n5, rfl⟩⟩
    rw [HR.out.r2, HR.out.no rfl]
    go_wp2_with fail
    go_ret
    exact ⟨rfl, below_dN0 HB3.out (n4 + n5)⟩
  · go_wp2_with fail
    refine (reg_run HO4.out 2).mono ?_
    rintro e w5 ⟨rfl, ⟨n5, rfl⟩⟩
    rw [HR.out.r2]
    have HO5 := Aside0.mk (HO3.out.drewN (n4 + n5))
    have HB5 := Aside0.mk (below_dN0 HB3.out (n4 + n5))
    go_wp2_with fail
    refine (reg_run HO5.out 0).mono ?_
    rintro e w6 ⟨rfl, ⟨n6, rfl⟩⟩
    rw [HR.out.r0]
    have HO6 := Aside0.mk (HO3.out.drewN (n4 + n5 + n6))
    have HB6 := Aside0.mk (below_dN0 HB3.out (n4 + n5 + n6))
    go_wp2_with fail
    refine (reg_run HO6.out 1).mono ?_
    rintro e w7 ⟨rfl, ⟨n7, rfl⟩⟩
    rw [HR.out.r1]
    go_wp2_with fail
    go_ret
    exact ⟨rfl, below_dN0 HB3.out (n4 + n5 + n6 + n7)⟩
set_option maxRecDepth 100000 in
set_option maxHeartbeats 64000000 in
theorem reckons_walk1 (a b c : Int) (ht : Int.tmod c 9 = 1) (ha : -9223372036854775808 ≤ a) (ha1 : a < 9223372036854775808) (w : World) :
    Calls Try.prog 9 #[.int .i64 a, .int .i64 b, .int .i64 c] w (reckP w) := by
  obtain ⟨W, v, ok, s, hR⟩ := reckons 1 (by decide) a b ha ha1
  have HR := Aside0.mk hR
  have hs := SOK_regs [a, b] 2 (SOK_new [W] 256 (show 1 ≤ 65536 by omega))
  have HS := Aside0.mk hs
  have hne : ∀ W, (binOp .neq 53 (.agg #[.int .i64 1, .int .i64 0, .int .i64 1]) (.agg #[.int .i64 1, .int .i64 0, .int .i64 1])).run Try.prog W = .ok (.bool false) W := fun _ => by kernel_rfl
  have hu := Try.underlying53
  clear hR hs ha ha1
  go_enter Try.func9, Try.ntmps9
  go_wp2_with fail
  have HBK := Aside0.mk (blk_alloc (blk_alloc (blk_alloc (blk_alloc (blk_new w (.cells #[.int .i64 8, .int .i64 9, .int .i64 10, .int .i64 11, .int .i64 13, .int .i64 14, .int .i64 15, .int .i64 16, .int .i64 17] 3)) (.cells #[.int .i64 1, .int .i64 2, .int .i64 11, .int .i64 13, .int .i64 7, .int .i64 8, .int .i64 9, .int .i64 14, .int .i64 15] 3)) (.cells (insL (insK 1)).toArray 61)) (.cells (insL (insK 1)).toArray 61)) (.cells #[.int .i64 a, .int .i64 b] 3))
  refine (processor_run 10 _ (some ⟨w.heap.size + 1 + 1 + 1, 0, none⟩) 1 [insK _] (some ⟨w.heap.size + 1 + 1 + 1 + 1, 0, none⟩) 2 [a, b] (two_blocks _ _ (by simp only [World.size_alloc]) _ a b).1 (Nat.le_refl 1) (two_blocks _ _ (by simp only [World.size_alloc]) _ a b).2 (Nat.le_refl 2) [W] 1 HR.out.all (show 1 ≤ 65536 by omega)).mono ?_
  rintro e w1 ⟨p, A, cc, bm, rfl, hO, hb⟩
  have HB1 := Aside0.mk (show Below w.heap.size w w1 from (below_alloc (below_alloc (below_alloc (below_alloc (below_alloc (Below.refl _ w) _) _) _) _) _).trans (hb.mono (by simp only [World.size_alloc]; omega)))
  have HQ1 := Aside0.mk (blk_below HBK.out hb)
  have HO1 := Aside0.mk (show COK w1 69 (w.heap.size + 1) w1.heap.size p A cc bm (setRegs [a, b] 2 (newC [W] 256)) from hO.lower (by simp only [World.size_alloc]; omega))
  clear hb hO HBK
  go_wp2_with fail
  refine (pianolalaw14_lives.calls true _ rfl).mono ?_
  rintro e w2 ⟨rfl, hb2⟩
  have HB2 := Aside0.mk (HB1.out.trans (hb2.mono HB1.out.size))
  have HQ2 := Aside0.mk (blk_below HQ1.out hb2)
  have HO2 := Aside0.mk (HO1.out.below hb2)
  have HZ2 := Aside0.mk hb2.size
  clear hb2 HB1 HQ1 HO1
  go_wp2_with fail
  have hrun := run_run HO2.out HZ2.out HS.out 5
  rw [HR.out.run] at hrun
  refine hrun.mono ?_
  rintro e w3 ⟨rfl, hT3⟩
  have HB3 := Aside0.mk (HB2.out.trans (hT3.2.2.mono (by omega)))
  have HO3 := Aside0.mk hT3.1
  have HQ3 := Aside0.mk (show w3.heap[w.heap.size]? = _ from (hT3.2.1.2 w.heap.size (blk_lt HQ2.out) (by have h1 := HO2.out.lp; have h2 := HO2.out.lm; unfold CB; omega)).trans HQ2.out)
  clear hT3 hrun HB2 HQ2 HO2 HZ2
  have hq := blk_cell HQ3.out 1
  go_wp2_with fail
  refine (pianolaref11_Reckon.calls 5 (recOp 1) a b v ok w3 HR.out.rec_).mono ?_
  rintro e w4 ⟨rfl, hd4⟩
  obtain ⟨n4, rfl⟩ := hd4.out
  clear hd4 hq
  have HO4 := Aside0.mk (HO3.out.drewN n4)
  have HB4 := Aside0.mk (below_dN0 HB3.out n4)
  cases ok
  · go_wp2_with fail
    refine (reg_run HO4.out 2).mono ?_
    rintro e w5 ⟨rfl, ⟨n5, rfl⟩⟩
    rw [HR.out.r2, HR.out.no rfl]
    go_wp2_with fail
    go_ret
    exact ⟨rfl, below_dN0 HB3.out (n4 + n5)⟩
  · go_wp2_with fail
    refine (reg_run HO4.out 2).mono ?_
    rintro e w5 ⟨rfl, ⟨n5, rfl⟩⟩
    rw [HR.out.r2]
    have HO5 := Aside0.mk (HO3.out.drewN (n4 + n5))
    have HB5 := Aside0.mk (below_dN0 HB3.out (n4 + n5))
    go_wp2_with fail
    refine (reg_run HO5.out 0).mono ?_
    rintro e w6 ⟨rfl, ⟨n6, rfl⟩⟩
    rw [HR.out.r0]
    have HO6 := Aside0.mk (HO3.out.drewN (n4 + n5 + n6))
    have HB6 := Aside0.mk (below_dN0 HB3.out (n4 + n5 + n6))
    go_wp2_with fail
    refine (reg_run HO6.out 1).mono ?_
    rintro e w7 ⟨rfl, ⟨n7, rfl⟩⟩
    rw [HR.out.r1]
    go_wp2_with fail
    go_ret
    exact ⟨rfl, below_dN0 HB3.out (n4 + n5 + n6 + n7)⟩
set_option maxRecDepth 100000 in
set_option maxHeartbeats 64000000 in
theorem reckons_walk2 (a b c : Int) (ht : Int.tmod c 9 = 2) (ha : -9223372036854775808 ≤ a) (ha1 : a < 9223372036854775808) (w : World) :
    Calls Try.prog 9 #[.int .i64 a, .int .i64 b, .int .i64 c] w (reckP w) := by
  obtain ⟨W, v, ok, s, hR⟩ := reckons 2 (by decide) a b ha ha1
  have HR := Aside0.mk hR
  have hs := SOK_regs [a, b] 2 (SOK_new [W] 256 (show 1 ≤ 65536 by omega))
  have HS := Aside0.mk hs
  have hne : ∀ W, (binOp .neq 53 (.agg #[.int .i64 1, .int .i64 0, .int .i64 1]) (.agg #[.int .i64 1, .int .i64 0, .int .i64 1])).run Try.prog W = .ok (.bool false) W := fun _ => by kernel_rfl
  have hu := Try.underlying53
  clear hR hs ha ha1
  go_enter Try.func9, Try.ntmps9
  go_wp2_with fail
  have HBK := Aside0.mk (blk_alloc (blk_alloc (blk_alloc (blk_alloc (blk_new w (.cells #[.int .i64 8, .int .i64 9, .int .i64 10, .int .i64 11, .int .i64 13, .int .i64 14, .int .i64 15, .int .i64 16, .int .i64 17] 3)) (.cells #[.int .i64 1, .int .i64 2, .int .i64 11, .int .i64 13, .int .i64 7, .int .i64 8, .int .i64 9, .int .i64 14, .int .i64 15] 3)) (.cells (insL (insK 2)).toArray 61)) (.cells (insL (insK 2)).toArray 61)) (.cells #[.int .i64 a, .int .i64 b] 3))
  refine (processor_run 10 _ (some ⟨w.heap.size + 1 + 1 + 1, 0, none⟩) 1 [insK _] (some ⟨w.heap.size + 1 + 1 + 1 + 1, 0, none⟩) 2 [a, b] (two_blocks _ _ (by simp only [World.size_alloc]) _ a b).1 (Nat.le_refl 1) (two_blocks _ _ (by simp only [World.size_alloc]) _ a b).2 (Nat.le_refl 2) [W] 1 HR.out.all (show 1 ≤ 65536 by omega)).mono ?_
  rintro e w1 ⟨p, A, cc, bm, rfl, hO, hb⟩
  have HB1 := Aside0.mk (show Below w.heap.size w w1 from (below_alloc (below_alloc (below_alloc (below_alloc (below_alloc (Below.refl _ w) _) _) _) _) _).trans (hb.mono (by simp only [World.size_alloc]; omega)))
  have HQ1 := Aside0.mk (blk_below HBK.out hb)
  have HO1 := Aside0.mk (show COK w1 69 (w.heap.size + 1) w1.heap.size p A cc bm (setRegs [a, b] 2 (newC [W] 256)) from hO.lower (by simp only [World.size_alloc]; omega))
  clear hb hO HBK
  go_wp2_with fail
  refine (pianolalaw14_lives.calls true _ rfl).mono ?_
  rintro e w2 ⟨rfl, hb2⟩
  have HB2 := Aside0.mk (HB1.out.trans (hb2.mono HB1.out.size))
  have HQ2 := Aside0.mk (blk_below HQ1.out hb2)
  have HO2 := Aside0.mk (HO1.out.below hb2)
  have HZ2 := Aside0.mk hb2.size
  clear hb2 HB1 HQ1 HO1
  go_wp2_with fail
  have hrun := run_run HO2.out HZ2.out HS.out 5
  rw [HR.out.run] at hrun
  refine hrun.mono ?_
  rintro e w3 ⟨rfl, hT3⟩
  have HB3 := Aside0.mk (HB2.out.trans (hT3.2.2.mono (by omega)))
  have HO3 := Aside0.mk hT3.1
  have HQ3 := Aside0.mk (show w3.heap[w.heap.size]? = _ from (hT3.2.1.2 w.heap.size (blk_lt HQ2.out) (by have h1 := HO2.out.lp; have h2 := HO2.out.lm; unfold CB; omega)).trans HQ2.out)
  clear hT3 hrun HB2 HQ2 HO2 HZ2
  have hq := blk_cell HQ3.out 2
  go_wp2_with fail
  refine (pianolaref11_Reckon.calls 5 (recOp 2) a b v ok w3 HR.out.rec_).mono ?_
  rintro e w4 ⟨rfl, hd4⟩
  obtain ⟨n4, rfl⟩ := hd4.out
  clear hd4 hq
  have HO4 := Aside0.mk (HO3.out.drewN n4)
  have HB4 := Aside0.mk (below_dN0 HB3.out n4)
  cases ok
  · go_wp2_with fail
    refine (reg_run HO4.out 2).mono ?_
    rintro e w5 ⟨rfl, ⟨n5, rfl⟩⟩
    rw [HR.out.r2, HR.out.no rfl]
    go_wp2_with fail
    go_ret
    exact ⟨rfl, below_dN0 HB3.out (n4 + n5)⟩
  · go_wp2_with fail
    refine (reg_run HO4.out 2).mono ?_
    rintro e w5 ⟨rfl, ⟨n5, rfl⟩⟩
    rw [HR.out.r2]
    have HO5 := Aside0.mk (HO3.out.drewN (n4 + n5))
    have HB5 := Aside0.mk (below_dN0 HB3.out (n4 + n5))
    go_wp2_with fail
    refine (reg_run HO5.out 0).mono ?_
    rintro e w6 ⟨rfl, ⟨n6, rfl⟩⟩
    rw [HR.out.r0]
    have HO6 := Aside0.mk (HO3.out.drewN (n4 + n5 + n6))
    have HB6 := Aside0.mk (below_dN0 HB3.out (n4 + n5 + n6))
    go_wp2_with fail
    refine (reg_run HO6.out 1).mono ?_
    rintro e w7 ⟨rfl, ⟨n7, rfl⟩⟩
    rw [HR.out.r1]
    go_wp2_with fail
    go_ret
    exact ⟨rfl, below_dN0 HB3.out (n4 + n5 + n6 + n7)⟩
set_option maxRecDepth 100000 in
set_option maxHeartbeats 64000000 in
theorem reckons_walk3 (a b c : Int) (ht : Int.tmod c 9 = 3) (ha : -9223372036854775808 ≤ a) (ha1 : a < 9223372036854775808) (w : World) :
    Calls Try.prog 9 #[.int .i64 a, .int .i64 b, .int .i64 c] w (reckP w) := by
  obtain ⟨W, v, ok, s, hR⟩ := reckons 3 (by decide) a b ha ha1
  have HR := Aside0.mk hR
  have hs := SOK_regs [a, b] 2 (SOK_new [W] 256 (show 1 ≤ 65536 by omega))
  have HS := Aside0.mk hs
  have hne : ∀ W, (binOp .neq 53 (.agg #[.int .i64 1, .int .i64 0, .int .i64 1]) (.agg #[.int .i64 1, .int .i64 0, .int .i64 1])).run Try.prog W = .ok (.bool false) W := fun _ => by kernel_rfl
  have hu := Try.underlying53
  clear hR hs ha ha1
  go_enter Try.func9, Try.ntmps9
  go_wp2_with fail
  have HBK := Aside0.mk (blk_alloc (blk_alloc (blk_alloc (blk_alloc (blk_new w (.cells #[.int .i64 8, .int .i64 9, .int .i64 10, .int .i64 11, .int .i64 13, .int .i64 14, .int .i64 15, .int .i64 16, .int .i64 17] 3)) (.cells #[.int .i64 1, .int .i64 2, .int .i64 11, .int .i64 13, .int .i64 7, .int .i64 8, .int .i64 9, .int .i64 14, .int .i64 15] 3)) (.cells (insL (insK 3)).toArray 61)) (.cells (insL (insK 3)).toArray 61)) (.cells #[.int .i64 a, .int .i64 b] 3))
  refine (processor_run 10 _ (some ⟨w.heap.size + 1 + 1 + 1, 0, none⟩) 1 [insK _] (some ⟨w.heap.size + 1 + 1 + 1 + 1, 0, none⟩) 2 [a, b] (two_blocks _ _ (by simp only [World.size_alloc]) _ a b).1 (Nat.le_refl 1) (two_blocks _ _ (by simp only [World.size_alloc]) _ a b).2 (Nat.le_refl 2) [W] 1 HR.out.all (show 1 ≤ 65536 by omega)).mono ?_
  rintro e w1 ⟨p, A, cc, bm, rfl, hO, hb⟩
  have HB1 := Aside0.mk (show Below w.heap.size w w1 from (below_alloc (below_alloc (below_alloc (below_alloc (below_alloc (Below.refl _ w) _) _) _) _) _).trans (hb.mono (by simp only [World.size_alloc]; omega)))
  have HQ1 := Aside0.mk (blk_below HBK.out hb)
  have HO1 := Aside0.mk (show COK w1 69 (w.heap.size + 1) w1.heap.size p A cc bm (setRegs [a, b] 2 (newC [W] 256)) from hO.lower (by simp only [World.size_alloc]; omega))
  clear hb hO HBK
  go_wp2_with fail
  refine (pianolalaw14_lives.calls true _ rfl).mono ?_
  rintro e w2 ⟨rfl, hb2⟩
  have HB2 := Aside0.mk (HB1.out.trans (hb2.mono HB1.out.size))
  have HQ2 := Aside0.mk (blk_below HQ1.out hb2)
  have HO2 := Aside0.mk (HO1.out.below hb2)
  have HZ2 := Aside0.mk hb2.size
  clear hb2 HB1 HQ1 HO1
  go_wp2_with fail
  have hrun := run_run HO2.out HZ2.out HS.out 5
  rw [HR.out.run] at hrun
  refine hrun.mono ?_
  rintro e w3 ⟨rfl, hT3⟩
  have HB3 := Aside0.mk (HB2.out.trans (hT3.2.2.mono (by omega)))
  have HO3 := Aside0.mk hT3.1
  have HQ3 := Aside0.mk (show w3.heap[w.heap.size]? = _ from (hT3.2.1.2 w.heap.size (blk_lt HQ2.out) (by have h1 := HO2.out.lp; have h2 := HO2.out.lm; unfold CB; omega)).trans HQ2.out)
  clear hT3 hrun HB2 HQ2 HO2 HZ2
  have hq := blk_cell HQ3.out 3
  go_wp2_with fail
  refine (pianolaref11_Reckon.calls 5 (recOp 3) a b v ok w3 HR.out.rec_).mono ?_
  rintro e w4 ⟨rfl, hd4⟩
  obtain ⟨n4, rfl⟩ := hd4.out
  clear hd4 hq
  have HO4 := Aside0.mk (HO3.out.drewN n4)
  have HB4 := Aside0.mk (below_dN0 HB3.out n4)
  cases ok
  · go_wp2_with fail
    refine (reg_run HO4.out 2).mono ?_
    rintro e w5 ⟨rfl, ⟨n5, rfl⟩⟩
    rw [HR.out.r2, HR.out.no rfl]
    go_wp2_with fail
    go_ret
    exact ⟨rfl, below_dN0 HB3.out (n4 + n5)⟩
  · go_wp2_with fail
    refine (reg_run HO4.out 2).mono ?_
    rintro e w5 ⟨rfl, ⟨n5, rfl⟩⟩
    rw [HR.out.r2]
    have HO5 := Aside0.mk (HO3.out.drewN (n4 + n5))
    have HB5 := Aside0.mk (below_dN0 HB3.out (n4 + n5))
    go_wp2_with fail
    refine (reg_run HO5.out 0).mono ?_
    rintro e w6 ⟨rfl, ⟨n6, rfl⟩⟩
    rw [HR.out.r0]
    have HO6 := Aside0.mk (HO3.out.drewN (n4 + n5 + n6))
    have HB6 := Aside0.mk (below_dN0 HB3.out (n4 + n5 + n6))
    go_wp2_with fail
    refine (reg_run HO6.out 1).mono ?_
    rintro e w7 ⟨rfl, ⟨n7, rfl⟩⟩
    rw [HR.out.r1]
    go_wp2_with fail
    go_ret
    exact ⟨rfl, below_dN0 HB3.out (n4 + n5 + n6 + n7)⟩
set_option maxRecDepth 100000 in
set_option maxHeartbeats 64000000 in
theorem reckons_walk4 (a b c : Int) (ht : Int.tmod c 9 = 4) (ha : -9223372036854775808 ≤ a) (ha1 : a < 9223372036854775808) (w : World) :
    Calls Try.prog 9 #[.int .i64 a, .int .i64 b, .int .i64 c] w (reckP w) := by
  obtain ⟨W, v, ok, s, hR⟩ := reckons 4 (by decide) a b ha ha1
  have HR := Aside0.mk hR
  have hs := SOK_regs [a, b] 2 (SOK_new [W] 256 (show 1 ≤ 65536 by omega))
  have HS := Aside0.mk hs
  have hne : ∀ W, (binOp .neq 53 (.agg #[.int .i64 1, .int .i64 0, .int .i64 1]) (.agg #[.int .i64 1, .int .i64 0, .int .i64 1])).run Try.prog W = .ok (.bool false) W := fun _ => by kernel_rfl
  have hu := Try.underlying53
  clear hR hs ha ha1
  go_enter Try.func9, Try.ntmps9
  go_wp2_with fail
  have HBK := Aside0.mk (blk_alloc (blk_alloc (blk_alloc (blk_alloc (blk_new w (.cells #[.int .i64 8, .int .i64 9, .int .i64 10, .int .i64 11, .int .i64 13, .int .i64 14, .int .i64 15, .int .i64 16, .int .i64 17] 3)) (.cells #[.int .i64 1, .int .i64 2, .int .i64 11, .int .i64 13, .int .i64 7, .int .i64 8, .int .i64 9, .int .i64 14, .int .i64 15] 3)) (.cells (insL (insK 4)).toArray 61)) (.cells (insL (insK 4)).toArray 61)) (.cells #[.int .i64 a, .int .i64 b] 3))
  refine (processor_run 10 _ (some ⟨w.heap.size + 1 + 1 + 1, 0, none⟩) 1 [insK _] (some ⟨w.heap.size + 1 + 1 + 1 + 1, 0, none⟩) 2 [a, b] (two_blocks _ _ (by simp only [World.size_alloc]) _ a b).1 (Nat.le_refl 1) (two_blocks _ _ (by simp only [World.size_alloc]) _ a b).2 (Nat.le_refl 2) [W] 1 HR.out.all (show 1 ≤ 65536 by omega)).mono ?_
  rintro e w1 ⟨p, A, cc, bm, rfl, hO, hb⟩
  have HB1 := Aside0.mk (show Below w.heap.size w w1 from (below_alloc (below_alloc (below_alloc (below_alloc (below_alloc (Below.refl _ w) _) _) _) _) _).trans (hb.mono (by simp only [World.size_alloc]; omega)))
  have HQ1 := Aside0.mk (blk_below HBK.out hb)
  have HO1 := Aside0.mk (show COK w1 69 (w.heap.size + 1) w1.heap.size p A cc bm (setRegs [a, b] 2 (newC [W] 256)) from hO.lower (by simp only [World.size_alloc]; omega))
  clear hb hO HBK
  go_wp2_with fail
  refine (pianolalaw14_lives.calls true _ rfl).mono ?_
  rintro e w2 ⟨rfl, hb2⟩
  have HB2 := Aside0.mk (HB1.out.trans (hb2.mono HB1.out.size))
  have HQ2 := Aside0.mk (blk_below HQ1.out hb2)
  have HO2 := Aside0.mk (HO1.out.below hb2)
  have HZ2 := Aside0.mk hb2.size
  clear hb2 HB1 HQ1 HO1
  go_wp2_with fail
  have hrun := run_run HO2.out HZ2.out HS.out 5
  rw [HR.out.run] at hrun
  refine hrun.mono ?_
  rintro e w3 ⟨rfl, hT3⟩
  have HB3 := Aside0.mk (HB2.out.trans (hT3.2.2.mono (by omega)))
  have HO3 := Aside0.mk hT3.1
  have HQ3 := Aside0.mk (show w3.heap[w.heap.size]? = _ from (hT3.2.1.2 w.heap.size (blk_lt HQ2.out) (by have h1 := HO2.out.lp; have h2 := HO2.out.lm; unfold CB; omega)).trans HQ2.out)
  clear hT3 hrun HB2 HQ2 HO2 HZ2
  have hq := blk_cell HQ3.out 4
  go_wp2_with fail
  refine (pianolaref11_Reckon.calls 5 (recOp 4) a b v ok w3 HR.out.rec_).mono ?_
  rintro e w4 ⟨rfl, hd4⟩
  obtain ⟨n4, rfl⟩ := hd4.out
  clear hd4 hq
  have HO4 := Aside0.mk (HO3.out.drewN n4)
  have HB4 := Aside0.mk (below_dN0 HB3.out n4)
  cases ok
  · go_wp2_with fail
    refine (reg_run HO4.out 2).mono ?_
    rintro e w5 ⟨rfl, ⟨n5, rfl⟩⟩
    rw [HR.out.r2, HR.out.no rfl]
    go_wp2_with fail
    go_ret
    exact ⟨rfl, below_dN0 HB3.out (n4 + n5)⟩
  · go_wp2_with fail
    refine (reg_run HO4.out 2).mono ?_
    rintro e w5 ⟨rfl, ⟨n5, rfl⟩⟩
    rw [HR.out.r2]
    have HO5 := Aside0.mk (HO3.out.drewN (n4 + n5))
    have HB5 := Aside0.mk (below_dN0 HB3.out (n4 + n5))
    go_wp2_with fail
    refine (reg_run HO5.out 0).mono ?_
    rintro e w6 ⟨rfl, ⟨n6, rfl⟩⟩
    rw [HR.out.r0]
    have HO6 := Aside0.mk (HO3.out.drewN (n4 + n5 + n6))
    have HB6 := Aside0.mk (below_dN0 HB3.out (n4 + n5 + n6))
    go_wp2_with fail
    refine (reg_run HO6.out 1).mono ?_
    rintro e w7 ⟨rfl, ⟨n7, rfl⟩⟩
    rw [HR.out.r1]
    go_wp2_with fail
    go_ret
    exact ⟨rfl, below_dN0 HB3.out (n4 + n5 + n6 + n7)⟩
set_option maxRecDepth 100000 in
set_option maxHeartbeats 64000000 in
theorem reckons_walk5 (a b c : Int) (ht : Int.tmod c 9 = 5) (ha : -9223372036854775808 ≤ a) (ha1 : a < 9223372036854775808) (w : World) :
    Calls Try.prog 9 #[.int .i64 a, .int .i64 b, .int .i64 c] w (reckP w) := by
  obtain ⟨W, v, ok, s, hR⟩ := reckons 5 (by decide) a b ha ha1
  have HR := Aside0.mk hR
  have hs := SOK_regs [a, b] 2 (SOK_new [W] 256 (show 1 ≤ 65536 by omega))
  have HS := Aside0.mk hs
  have hne : ∀ W, (binOp .neq 53 (.agg #[.int .i64 1, .int .i64 0, .int .i64 1]) (.agg #[.int .i64 1, .int .i64 0, .int .i64 1])).run Try.prog W = .ok (.bool false) W := fun _ => by kernel_rfl
  have hu := Try.underlying53
  clear hR hs ha ha1
  go_enter Try.func9, Try.ntmps9
  go_wp2_with fail
  have HBK := Aside0.mk (blk_alloc (blk_alloc (blk_alloc (blk_alloc (blk_new w (.cells #[.int .i64 8, .int .i64 9, .int .i64 10, .int .i64 11, .int .i64 13, .int .i64 14, .int .i64 15, .int .i64 16, .int .i64 17] 3)) (.cells #[.int .i64 1, .int .i64 2, .int .i64 11, .int .i64 13, .int .i64 7, .int .i64 8, .int .i64 9, .int .i64 14, .int .i64 15] 3)) (.cells (insL (insK 5)).toArray 61)) (.cells (insL (insK 5)).toArray 61)) (.cells #[.int .i64 a, .int .i64 b] 3))
  refine (processor_run 10 _ (some ⟨w.heap.size + 1 + 1 + 1, 0, none⟩) 1 [insK _] (some ⟨w.heap.size + 1 + 1 + 1 + 1, 0, none⟩) 2 [a, b] (two_blocks _ _ (by simp only [World.size_alloc]) _ a b).1 (Nat.le_refl 1) (two_blocks _ _ (by simp only [World.size_alloc]) _ a b).2 (Nat.le_refl 2) [W] 1 HR.out.all (show 1 ≤ 65536 by omega)).mono ?_
  rintro e w1 ⟨p, A, cc, bm, rfl, hO, hb⟩
  have HB1 := Aside0.mk (show Below w.heap.size w w1 from (below_alloc (below_alloc (below_alloc (below_alloc (below_alloc (Below.refl _ w) _) _) _) _) _).trans (hb.mono (by simp only [World.size_alloc]; omega)))
  have HQ1 := Aside0.mk (blk_below HBK.out hb)
  have HO1 := Aside0.mk (show COK w1 69 (w.heap.size + 1) w1.heap.size p A cc bm (setRegs [a, b] 2 (newC [W] 256)) from hO.lower (by simp only [World.size_alloc]; omega))
  clear hb hO HBK
  go_wp2_with fail
  refine (pianolalaw14_lives.calls true _ rfl).mono ?_
  rintro e w2 ⟨rfl, hb2⟩
  have HB2 := Aside0.mk (HB1.out.trans (hb2.mono HB1.out.size))
  have HQ2 := Aside0.mk (blk_below HQ1.out hb2)
  have HO2 := Aside0.mk (HO1.out.below hb2)
  have HZ2 := Aside0.mk hb2.size
  clear hb2 HB1 HQ1 HO1
  go_wp2_with fail
  have hrun := run_run HO2.out HZ2.out HS.out 5
  rw [HR.out.run] at hrun
  refine hrun.mono ?_
  rintro e w3 ⟨rfl, hT3⟩
  have HB3 := Aside0.mk (HB2.out.trans (hT3.2.2.mono (by omega)))
  have HO3 := Aside0.mk hT3.1
  have HQ3 := Aside0.mk (show w3.heap[w.heap.size]? = _ from (hT3.2.1.2 w.heap.size (blk_lt HQ2.out) (by have h1 := HO2.out.lp; have h2 := HO2.out.lm; unfold CB; omega)).trans HQ2.out)
  clear hT3 hrun HB2 HQ2 HO2 HZ2
  have hq := blk_cell HQ3.out 5
  go_wp2_with fail
  refine (pianolaref11_Reckon.calls 5 (recOp 5) a b v ok w3 HR.out.rec_).mono ?_
  rintro e w4 ⟨rfl, hd4⟩
  obtain ⟨n4, rfl⟩ := hd4.out
  clear hd4 hq
  have HO4 := Aside0.mk (HO3.out.drewN n4)
  have HB4 := Aside0.mk (below_dN0 HB3.out n4)
  cases ok
  · go_wp2_with fail
    refine (reg_run HO4.out 2).mono ?_
    rintro e w5 ⟨rfl, ⟨n5, rfl⟩⟩
    rw [HR.out.r2, HR.out.no rfl]
    go_wp2_with fail
    go_ret
    exact ⟨rfl, below_dN0 HB3.out (n4 + n5)⟩
  · go_wp2_with fail
    refine (reg_run HO4.out 2).mono ?_
    rintro e w5 ⟨rfl, ⟨n5, rfl⟩⟩
    rw [HR.out.r2]
    have HO5 := Aside0.mk (HO3.out.drewN (n4 + n5))
    have HB5 := Aside0.mk (below_dN0 HB3.out (n4 + n5))
    go_wp2_with fail
    refine (reg_run HO5.out 0).mono ?_
    rintro e w6 ⟨rfl, ⟨n6, rfl⟩⟩
    rw [HR.out.r0]
    have HO6 := Aside0.mk (HO3.out.drewN (n4 + n5 + n6))
    have HB6 := Aside0.mk (below_dN0 HB3.out (n4 + n5 + n6))
    go_wp2_with fail
    refine (reg_run HO6.out 1).mono ?_
    rintro e w7 ⟨rfl, ⟨n7, rfl⟩⟩
    rw [HR.out.r1]
    go_wp2_with fail
    go_ret
    exact ⟨rfl, below_dN0 HB3.out (n4 + n5 + n6 + n7)⟩
set_option maxRecDepth 100000 in
set_option maxHeartbeats 64000000 in
theorem reckons_walk6 (a b c : Int) (ht : Int.tmod c 9 = 6) (ha : -9223372036854775808 ≤ a) (ha1 : a < 9223372036854775808) (w : World) :
    Calls Try.prog 9 #[.int .i64 a, .int .i64 b, .int .i64 c] w (reckP w) := by
  obtain ⟨W, v, ok, s, hR⟩ := reckons 6 (by decide) a b ha ha1
  have HR := Aside0.mk hR
  have hs := SOK_regs [a, b] 2 (SOK_new [W] 256 (show 1 ≤ 65536 by omega))
  have HS := Aside0.mk hs
  have hne : ∀ W, (binOp .neq 53 (.agg #[.int .i64 1, .int .i64 0, .int .i64 1]) (.agg #[.int .i64 1, .int .i64 0, .int .i64 1])).run Try.prog W = .ok (.bool false) W := fun _ => by kernel_rfl
  have hu := Try.underlying53
  clear hR hs ha ha1
  go_enter Try.func9, Try.ntmps9
  go_wp2_with fail
  have HBK := Aside0.mk (blk_alloc (blk_alloc (blk_alloc (blk_alloc (blk_new w (.cells #[.int .i64 8, .int .i64 9, .int .i64 10, .int .i64 11, .int .i64 13, .int .i64 14, .int .i64 15, .int .i64 16, .int .i64 17] 3)) (.cells #[.int .i64 1, .int .i64 2, .int .i64 11, .int .i64 13, .int .i64 7, .int .i64 8, .int .i64 9, .int .i64 14, .int .i64 15] 3)) (.cells (insL (insK 6)).toArray 61)) (.cells (insL (insK 6)).toArray 61)) (.cells #[.int .i64 a, .int .i64 b] 3))
  refine (processor_run 10 _ (some ⟨w.heap.size + 1 + 1 + 1, 0, none⟩) 1 [insK _] (some ⟨w.heap.size + 1 + 1 + 1 + 1, 0, none⟩) 2 [a, b] (two_blocks _ _ (by simp only [World.size_alloc]) _ a b).1 (Nat.le_refl 1) (two_blocks _ _ (by simp only [World.size_alloc]) _ a b).2 (Nat.le_refl 2) [W] 1 HR.out.all (show 1 ≤ 65536 by omega)).mono ?_
  rintro e w1 ⟨p, A, cc, bm, rfl, hO, hb⟩
  have HB1 := Aside0.mk (show Below w.heap.size w w1 from (below_alloc (below_alloc (below_alloc (below_alloc (below_alloc (Below.refl _ w) _) _) _) _) _).trans (hb.mono (by simp only [World.size_alloc]; omega)))
  have HQ1 := Aside0.mk (blk_below HBK.out hb)
  have HO1 := Aside0.mk (show COK w1 69 (w.heap.size + 1) w1.heap.size p A cc bm (setRegs [a, b] 2 (newC [W] 256)) from hO.lower (by simp only [World.size_alloc]; omega))
  clear hb hO HBK
  go_wp2_with fail
  refine (pianolalaw14_lives.calls true _ rfl).mono ?_
  rintro e w2 ⟨rfl, hb2⟩
  have HB2 := Aside0.mk (HB1.out.trans (hb2.mono HB1.out.size))
  have HQ2 := Aside0.mk (blk_below HQ1.out hb2)
  have HO2 := Aside0.mk (HO1.out.below hb2)
  have HZ2 := Aside0.mk hb2.size
  clear hb2 HB1 HQ1 HO1
  go_wp2_with fail
  have hrun := run_run HO2.out HZ2.out HS.out 5
  rw [HR.out.run] at hrun
  refine hrun.mono ?_
  rintro e w3 ⟨rfl, hT3⟩
  have HB3 := Aside0.mk (HB2.out.trans (hT3.2.2.mono (by omega)))
  have HO3 := Aside0.mk hT3.1
  have HQ3 := Aside0.mk (show w3.heap[w.heap.size]? = _ from (hT3.2.1.2 w.heap.size (blk_lt HQ2.out) (by have h1 := HO2.out.lp; have h2 := HO2.out.lm; unfold CB; omega)).trans HQ2.out)
  clear hT3 hrun HB2 HQ2 HO2 HZ2
  have hq := blk_cell HQ3.out 6
  go_wp2_with fail
  refine (pianolaref11_Reckon.calls 5 (recOp 6) a b v ok w3 HR.out.rec_).mono ?_
  rintro e w4 ⟨rfl, hd4⟩
  obtain ⟨n4, rfl⟩ := hd4.out
  clear hd4 hq
  have HO4 := Aside0.mk (HO3.out.drewN n4)
  have HB4 := Aside0.mk (below_dN0 HB3.out n4)
  cases ok
  · go_wp2_with fail
    refine (reg_run HO4.out 2).mono ?_
    rintro e w5 ⟨rfl, ⟨n5, rfl⟩⟩
    rw [HR.out.r2, HR.out.no rfl]
    go_wp2_with fail
    go_ret
    exact ⟨rfl, below_dN0 HB3.out (n4 + n5)⟩
  · go_wp2_with fail
    refine (reg_run HO4.out 2).mono ?_
    rintro e w5 ⟨rfl, ⟨n5, rfl⟩⟩
    rw [HR.out.r2]
    have HO5 := Aside0.mk (HO3.out.drewN (n4 + n5))
    have HB5 := Aside0.mk (below_dN0 HB3.out (n4 + n5))
    go_wp2_with fail
    refine (reg_run HO5.out 0).mono ?_
    rintro e w6 ⟨rfl, ⟨n6, rfl⟩⟩
    rw [HR.out.r0]
    have HO6 := Aside0.mk (HO3.out.drewN (n4 + n5 + n6))
    have HB6 := Aside0.mk (below_dN0 HB3.out (n4 + n5 + n6))
    go_wp2_with fail
    refine (reg_run HO6.out 1).mono ?_
    rintro e w7 ⟨rfl, ⟨n7, rfl⟩⟩
    rw [HR.out.r1]
    go_wp2_with fail
    go_ret
    exact ⟨rfl, below_dN0 HB3.out (n4 + n5 + n6 + n7)⟩
set_option maxRecDepth 100000 in
set_option maxHeartbeats 64000000 in
theorem reckons_walk7 (a b c : Int) (ht : Int.tmod c 9 = 7) (ha : -9223372036854775808 ≤ a) (ha1 : a < 9223372036854775808) (w : World) :
    Calls Try.prog 9 #[.int .i64 a, .int .i64 b, .int .i64 c] w (reckP w) := by
  obtain ⟨W, v, ok, s, hR⟩ := reckons 7 (by decide) a b ha ha1
  have HR := Aside0.mk hR
  have hs := SOK_regs [a, b] 2 (SOK_new [W] 256 (show 1 ≤ 65536 by omega))
  have HS := Aside0.mk hs
  have hne : ∀ W, (binOp .neq 53 (.agg #[.int .i64 1, .int .i64 0, .int .i64 1]) (.agg #[.int .i64 1, .int .i64 0, .int .i64 1])).run Try.prog W = .ok (.bool false) W := fun _ => by kernel_rfl
  have hu := Try.underlying53
  clear hR hs ha ha1
  go_enter Try.func9, Try.ntmps9
  go_wp2_with fail
  have HBK := Aside0.mk (blk_alloc (blk_alloc (blk_alloc (blk_alloc (blk_new w (.cells #[.int .i64 8, .int .i64 9, .int .i64 10, .int .i64 11, .int .i64 13, .int .i64 14, .int .i64 15, .int .i64 16, .int .i64 17] 3)) (.cells #[.int .i64 1, .int .i64 2, .int .i64 11, .int .i64 13, .int .i64 7, .int .i64 8, .int .i64 9, .int .i64 14, .int .i64 15] 3)) (.cells (insL (insK 7)).toArray 61)) (.cells (insL (insK 7)).toArray 61)) (.cells #[.int .i64 a, .int .i64 b] 3))
  refine (processor_run 10 _ (some ⟨w.heap.size + 1 + 1 + 1, 0, none⟩) 1 [insK _] (some ⟨w.heap.size + 1 + 1 + 1 + 1, 0, none⟩) 2 [a, b] (two_blocks _ _ (by simp only [World.size_alloc]) _ a b).1 (Nat.le_refl 1) (two_blocks _ _ (by simp only [World.size_alloc]) _ a b).2 (Nat.le_refl 2) [W] 1 HR.out.all (show 1 ≤ 65536 by omega)).mono ?_
  rintro e w1 ⟨p, A, cc, bm, rfl, hO, hb⟩
  have HB1 := Aside0.mk (show Below w.heap.size w w1 from (below_alloc (below_alloc (below_alloc (below_alloc (below_alloc (Below.refl _ w) _) _) _) _) _).trans (hb.mono (by simp only [World.size_alloc]; omega)))
  have HQ1 := Aside0.mk (blk_below HBK.out hb)
  have HO1 := Aside0.mk (show COK w1 69 (w.heap.size + 1) w1.heap.size p A cc bm (setRegs [a, b] 2 (newC [W] 256)) from hO.lower (by simp only [World.size_alloc]; omega))
  clear hb hO HBK
  go_wp2_with fail
  refine (pianolalaw14_lives.calls true _ rfl).mono ?_
  rintro e w2 ⟨rfl, hb2⟩
  have HB2 := Aside0.mk (HB1.out.trans (hb2.mono HB1.out.size))
  have HQ2 := Aside0.mk (blk_below HQ1.out hb2)
  have HO2 := Aside0.mk (HO1.out.below hb2)
  have HZ2 := Aside0.mk hb2.size
  clear hb2 HB1 HQ1 HO1
  go_wp2_with fail
  have hrun := run_run HO2.out HZ2.out HS.out 5
  rw [HR.out.run] at hrun
  refine hrun.mono ?_
  rintro e w3 ⟨rfl, hT3⟩
  have HB3 := Aside0.mk (HB2.out.trans (hT3.2.2.mono (by omega)))
  have HO3 := Aside0.mk hT3.1
  have HQ3 := Aside0.mk (show w3.heap[w.heap.size]? = _ from (hT3.2.1.2 w.heap.size (blk_lt HQ2.out) (by have h1 := HO2.out.lp; have h2 := HO2.out.lm; unfold CB; omega)).trans HQ2.out)
  clear hT3 hrun HB2 HQ2 HO2 HZ2
  have hq := blk_cell HQ3.out 7
  go_wp2_with fail
  refine (pianolaref11_Reckon.calls 5 (recOp 7) a b v ok w3 HR.out.rec_).mono ?_
  rintro e w4 ⟨rfl, hd4⟩
  obtain ⟨n4, rfl⟩ := hd4.out
  clear hd4 hq
  have HO4 := Aside0.mk (HO3.out.drewN n4)
  have HB4 := Aside0.mk (below_dN0 HB3.out n4)
  cases ok
  · go_wp2_with fail
    refine (reg_run HO4.out 2).mono ?_
    rintro e w5 ⟨rfl, ⟨n5, rfl⟩⟩
    rw [HR.out.r2, HR.out.no rfl]
    go_wp2_with fail
    go_ret
    exact ⟨rfl, below_dN0 HB3.out (n4 + n5)⟩
  · go_wp2_with fail
    refine (reg_run HO4.out 2).mono ?_
    rintro e w5 ⟨rfl, ⟨n5, rfl⟩⟩
    rw [HR.out.r2]
    have HO5 := Aside0.mk (HO3.out.drewN (n4 + n5))
    have HB5 := Aside0.mk (below_dN0 HB3.out (n4 + n5))
    go_wp2_with fail
    refine (reg_run HO5.out 0).mono ?_
    rintro e w6 ⟨rfl, ⟨n6, rfl⟩⟩
    rw [HR.out.r0]
    have HO6 := Aside0.mk (HO3.out.drewN (n4 + n5 + n6))
    have HB6 := Aside0.mk (below_dN0 HB3.out (n4 + n5 + n6))
    go_wp2_with fail
    refine (reg_run HO6.out 1).mono ?_
    rintro e w7 ⟨rfl, ⟨n7, rfl⟩⟩
    rw [HR.out.r1]
    go_wp2_with fail
    go_ret
    exact ⟨rfl, below_dN0 HB3.out (n4 + n5 + n6 + n7)⟩
set_option maxRecDepth 100000 in
set_option maxHeartbeats 64000000 in
theorem reckons_walk8 (a b c : Int) (ht : Int.tmod c 9 = 8) (ha : -9223372036854775808 ≤ a) (ha1 : a < 9223372036854775808) (w : World) :
    Calls Try.prog 9 #[.int .i64 a, .int .i64 b, .int .i64 c] w (reckP w) := by
  obtain ⟨W, v, ok, s, hR⟩ := reckons 8 (by decide) a b ha ha1
  have HR := Aside0.mk hR
  have hs := SOK_regs [a, b] 2 (SOK_new [W] 256 (show 1 ≤ 65536 by omega))
  have HS := Aside0.mk hs
  have hne : ∀ W, (binOp .neq 53 (.agg #[.int .i64 1, .int .i64 0, .int .i64 1]) (.agg #[.int .i64 1, .int .i64 0, .int .i64 1])).run Try.prog W = .ok (.bool false) W := fun _ => by kernel_rfl
  have hu := Try.underlying53
  clear hR hs ha ha1
  go_enter Try.func9, Try.ntmps9
  go_wp2_with fail
  have HBK := Aside0.mk (blk_alloc (blk_alloc (blk_alloc (blk_alloc (blk_new w (.cells #[.int .i64 8, .int .i64 9, .int .i64 10, .int .i64 11, .int .i64 13, .int .i64 14, .int .i64 15, .int .i64 16, .int .i64 17] 3)) (.cells #[.int .i64 1, .int .i64 2, .int .i64 11, .int .i64 13, .int .i64 7, .int .i64 8, .int .i64 9, .int .i64 14, .int .i64 15] 3)) (.cells (insL (insK 8)).toArray 61)) (.cells (insL (insK 8)).toArray 61)) (.cells #[.int .i64 a, .int .i64 b] 3))
  refine (processor_run 10 _ (some ⟨w.heap.size + 1 + 1 + 1, 0, none⟩) 1 [insK _] (some ⟨w.heap.size + 1 + 1 + 1 + 1, 0, none⟩) 2 [a, b] (two_blocks _ _ (by simp only [World.size_alloc]) _ a b).1 (Nat.le_refl 1) (two_blocks _ _ (by simp only [World.size_alloc]) _ a b).2 (Nat.le_refl 2) [W] 1 HR.out.all (show 1 ≤ 65536 by omega)).mono ?_
  rintro e w1 ⟨p, A, cc, bm, rfl, hO, hb⟩
  have HB1 := Aside0.mk (show Below w.heap.size w w1 from (below_alloc (below_alloc (below_alloc (below_alloc (below_alloc (Below.refl _ w) _) _) _) _) _).trans (hb.mono (by simp only [World.size_alloc]; omega)))
  have HQ1 := Aside0.mk (blk_below HBK.out hb)
  have HO1 := Aside0.mk (show COK w1 69 (w.heap.size + 1) w1.heap.size p A cc bm (setRegs [a, b] 2 (newC [W] 256)) from hO.lower (by simp only [World.size_alloc]; omega))
  clear hb hO HBK
  go_wp2_with fail
  refine (pianolalaw14_lives.calls true _ rfl).mono ?_
  rintro e w2 ⟨rfl, hb2⟩
  have HB2 := Aside0.mk (HB1.out.trans (hb2.mono HB1.out.size))
  have HQ2 := Aside0.mk (blk_below HQ1.out hb2)
  have HO2 := Aside0.mk (HO1.out.below hb2)
  have HZ2 := Aside0.mk hb2.size
  clear hb2 HB1 HQ1 HO1
  go_wp2_with fail
  have hrun := run_run HO2.out HZ2.out HS.out 5
  rw [HR.out.run] at hrun
  refine hrun.mono ?_
  rintro e w3 ⟨rfl, hT3⟩
  have HB3 := Aside0.mk (HB2.out.trans (hT3.2.2.mono (by omega)))
  have HO3 := Aside0.mk hT3.1
  have HQ3 := Aside0.mk (show w3.heap[w.heap.size]? = _ from (hT3.2.1.2 w.heap.size (blk_lt HQ2.out) (by have h1 := HO2.out.lp; have h2 := HO2.out.lm; unfold CB; omega)).trans HQ2.out)
  clear hT3 hrun HB2 HQ2 HO2 HZ2
  have hq := blk_cell HQ3.out 8
  go_wp2_with fail
  refine (pianolaref11_Reckon.calls 5 (recOp 8) a b v ok w3 HR.out.rec_).mono ?_
  rintro e w4 ⟨rfl, hd4⟩
  obtain ⟨n4, rfl⟩ := hd4.out
  clear hd4 hq
  have HO4 := Aside0.mk (HO3.out.drewN n4)
  have HB4 := Aside0.mk (below_dN0 HB3.out n4)
  cases ok
  · go_wp2_with fail
    refine (reg_run HO4.out 2).mono ?_
    rintro e w5 ⟨rfl, ⟨n5, rfl⟩⟩
    rw [HR.out.r2, HR.out.no rfl]
    go_wp2_with fail
    go_ret
    exact ⟨rfl, below_dN0 HB3.out (n4 + n5)⟩
  · go_wp2_with fail
    refine (reg_run HO4.out 2).mono ?_
    rintro e w5 ⟨rfl, ⟨n5, rfl⟩⟩
    rw [HR.out.r2]
    have HO5 := Aside0.mk (HO3.out.drewN (n4 + n5))
    have HB5 := Aside0.mk (below_dN0 HB3.out (n4 + n5))
    go_wp2_with fail
    refine (reg_run HO5.out 0).mono ?_
    rintro e w6 ⟨rfl, ⟨n6, rfl⟩⟩
    rw [HR.out.r0]
    have HO6 := Aside0.mk (HO3.out.drewN (n4 + n5 + n6))
    have HB6 := Aside0.mk (below_dN0 HB3.out (n4 + n5 + n6))
    go_wp2_with fail
    refine (reg_run HO6.out 1).mono ?_
    rintro e w7 ⟨rfl, ⟨n7, rfl⟩⟩
    rw [HR.out.r1]
    go_wp2_with fail
    go_ret
    exact ⟨rfl, below_dN0 HB3.out (n4 + n5 + n6 + n7)⟩
set_option maxRecDepth 100000 in
set_option maxHeartbeats 64000000 in
theorem reckons_walk1n (a b c : Int) (ht : Int.tmod c 9 = -1) (ha : -9223372036854775808 ≤ a) (ha1 : a < 9223372036854775808) (w : World) :
    Calls Try.prog 9 #[.int .i64 a, .int .i64 b, .int .i64 c] w (reckP w) := by
  obtain ⟨W, v, ok, s, hR⟩ := reckons 1 (by decide) a b ha ha1
  have HR := Aside0.mk hR
  have hs := SOK_regs [a, b] 2 (SOK_new [W] 256 (show 1 ≤ 65536 by omega))
  have HS := Aside0.mk hs
  have hne : ∀ W, (binOp .neq 53 (.agg #[.int .i64 1, .int .i64 0, .int .i64 1]) (.agg #[.int .i64 1, .int .i64 0, .int .i64 1])).run Try.prog W = .ok (.bool false) W := fun _ => by kernel_rfl
  have hu := Try.underlying53
  clear hR hs ha ha1
  go_enter Try.func9, Try.ntmps9
  go_wp2_with fail
  have HBK := Aside0.mk (blk_alloc (blk_alloc (blk_alloc (blk_alloc (blk_new w (.cells #[.int .i64 8, .int .i64 9, .int .i64 10, .int .i64 11, .int .i64 13, .int .i64 14, .int .i64 15, .int .i64 16, .int .i64 17] 3)) (.cells #[.int .i64 1, .int .i64 2, .int .i64 11, .int .i64 13, .int .i64 7, .int .i64 8, .int .i64 9, .int .i64 14, .int .i64 15] 3)) (.cells (insL (insK 1)).toArray 61)) (.cells (insL (insK 1)).toArray 61)) (.cells #[.int .i64 a, .int .i64 b] 3))
  refine (processor_run 10 _ (some ⟨w.heap.size + 1 + 1 + 1, 0, none⟩) 1 [insK _] (some ⟨w.heap.size + 1 + 1 + 1 + 1, 0, none⟩) 2 [a, b] (two_blocks _ _ (by simp only [World.size_alloc]) _ a b).1 (Nat.le_refl 1) (two_blocks _ _ (by simp only [World.size_alloc]) _ a b).2 (Nat.le_refl 2) [W] 1 HR.out.all (show 1 ≤ 65536 by omega)).mono ?_
  rintro e w1 ⟨p, A, cc, bm, rfl, hO, hb⟩
  have HB1 := Aside0.mk (show Below w.heap.size w w1 from (below_alloc (below_alloc (below_alloc (below_alloc (below_alloc (Below.refl _ w) _) _) _) _) _).trans (hb.mono (by simp only [World.size_alloc]; omega)))
  have HQ1 := Aside0.mk (blk_below HBK.out hb)
  have HO1 := Aside0.mk (show COK w1 69 (w.heap.size + 1) w1.heap.size p A cc bm (setRegs [a, b] 2 (newC [W] 256)) from hO.lower (by simp only [World.size_alloc]; omega))
  clear hb hO HBK
  go_wp2_with fail
  refine (pianolalaw14_lives.calls true _ rfl).mono ?_
  rintro e w2 ⟨rfl, hb2⟩
  have HB2 := Aside0.mk (HB1.out.trans (hb2.mono HB1.out.size))
  have HQ2 := Aside0.mk (blk_below HQ1.out hb2)
  have HO2 := Aside0.mk (HO1.out.below hb2)
  have HZ2 := Aside0.mk hb2.size
  clear hb2 HB1 HQ1 HO1
  go_wp2_with fail
  have hrun := run_run HO2.out HZ2.out HS.out 5
  rw [HR.out.run] at hrun
  refine hrun.mono ?_
  rintro e w3 ⟨rfl, hT3⟩
  have HB3 := Aside0.mk (HB2.out.trans (hT3.2.2.mono (by omega)))
  have HO3 := Aside0.mk hT3.1
  have HQ3 := Aside0.mk (show w3.heap[w.heap.size]? = _ from (hT3.2.1.2 w.heap.size (blk_lt HQ2.out) (by have h1 := HO2.out.lp; have h2 := HO2.out.lm; unfold CB; omega)).trans HQ2.out)
  clear hT3 hrun HB2 HQ2 HO2 HZ2
  have hq := blk_cell HQ3.out 1
  go_wp2_with fail
  refine (pianolaref11_Reckon.calls 5 (recOp 1) a b v ok w3 HR.out.rec_).mono ?_
  rintro e w4 ⟨rfl, hd4⟩
  obtain ⟨n4, rfl⟩ := hd4.out
  clear hd4 hq
  have HO4 := Aside0.mk (HO3.out.drewN n4)
  have HB4 := Aside0.mk (below_dN0 HB3.out n4)
  cases ok
  · go_wp2_with fail
    refine (reg_run HO4.out 2).mono ?_
    rintro e w5 ⟨rfl, ⟨n5, rfl⟩⟩
    rw [HR.out.r2, HR.out.no rfl]
    go_wp2_with fail
    go_ret
    exact ⟨rfl, below_dN0 HB3.out (n4 + n5)⟩
  · go_wp2_with fail
    refine (reg_run HO4.out 2).mono ?_
    rintro e w5 ⟨rfl, ⟨n5, rfl⟩⟩
    rw [HR.out.r2]
    have HO5 := Aside0.mk (HO3.out.drewN (n4 + n5))
    have HB5 := Aside0.mk (below_dN0 HB3.out (n4 + n5))
    go_wp2_with fail
    refine (reg_run HO5.out 0).mono ?_
    rintro e w6 ⟨rfl, ⟨n6, rfl⟩⟩
    rw [HR.out.r0]
    have HO6 := Aside0.mk (HO3.out.drewN (n4 + n5 + n6))
    have HB6 := Aside0.mk (below_dN0 HB3.out (n4 + n5 + n6))
    go_wp2_with fail
    refine (reg_run HO6.out 1).mono ?_
    rintro e w7 ⟨rfl, ⟨n7, rfl⟩⟩
    rw [HR.out.r1]
    go_wp2_with fail
    go_ret
    exact ⟨rfl, below_dN0 HB3.out (n4 + n5 + n6 + n7)⟩
set_option maxRecDepth 100000 in
set_option maxHeartbeats 64000000 in
theorem reckons_walk2n (a b c : Int) (ht : Int.tmod c 9 = -2) (ha : -9223372036854775808 ≤ a) (ha1 : a < 9223372036854775808) (w : World) :
    Calls Try.prog 9 #[.int .i64 a, .int .i64 b, .int .i64 c] w (reckP w) := by
  obtain ⟨W, v, ok, s, hR⟩ := reckons 2 (by decide) a b ha ha1
  have HR := Aside0.mk hR
  have hs := SOK_regs [a, b] 2 (SOK_new [W] 256 (show 1 ≤ 65536 by omega))
  have HS := Aside0.mk hs
  have hne : ∀ W, (binOp .neq 53 (.agg #[.int .i64 1, .int .i64 0, .int .i64 1]) (.agg #[.int .i64 1, .int .i64 0, .int .i64 1])).run Try.prog W = .ok (.bool false) W := fun _ => by kernel_rfl
  have hu := Try.underlying53
  clear hR hs ha ha1
  go_enter Try.func9, Try.ntmps9
  go_wp2_with fail
  have HBK := Aside0.mk (blk_alloc (blk_alloc (blk_alloc (blk_alloc (blk_new w (.cells #[.int .i64 8, .int .i64 9, .int .i64 10, .int .i64 11, .int .i64 13, .int .i64 14, .int .i64 15, .int .i64 16, .int .i64 17] 3)) (.cells #[.int .i64 1, .int .i64 2, .int .i64 11, .int .i64 13, .int .i64 7, .int .i64 8, .int .i64 9, .int .i64 14, .int .i64 15] 3)) (.cells (insL (insK 2)).toArray 61)) (.cells (insL (insK 2)).toArray 61)) (.cells #[.int .i64 a, .int .i64 b] 3))
  refine (processor_run 10 _ (some ⟨w.heap.size + 1 + 1 + 1, 0, none⟩) 1 [insK _] (some ⟨w.heap.size + 1 + 1 + 1 + 1, 0, none⟩) 2 [a, b] (two_blocks _ _ (by simp only [World.size_alloc]) _ a b).1 (Nat.le_refl 1) (two_blocks _ _ (by simp only [World.size_alloc]) _ a b).2 (Nat.le_refl 2) [W] 1 HR.out.all (show 1 ≤ 65536 by omega)).mono ?_
  rintro e w1 ⟨p, A, cc, bm, rfl, hO, hb⟩
  have HB1 := Aside0.mk (show Below w.heap.size w w1 from (below_alloc (below_alloc (below_alloc (below_alloc (below_alloc (Below.refl _ w) _) _) _) _) _).trans (hb.mono (by simp only [World.size_alloc]; omega)))
  have HQ1 := Aside0.mk (blk_below HBK.out hb)
  have HO1 := Aside0.mk (show COK w1 69 (w.heap.size + 1) w1.heap.size p A cc bm (setRegs [a, b] 2 (newC [W] 256)) from hO.lower (by simp only [World.size_alloc]; omega))
  clear hb hO HBK
  go_wp2_with fail
  refine (pianolalaw14_lives.calls true _ rfl).mono ?_
  rintro e w2 ⟨rfl, hb2⟩
  have HB2 := Aside0.mk (HB1.out.trans (hb2.mono HB1.out.size))
  have HQ2 := Aside0.mk (blk_below HQ1.out hb2)
  have HO2 := Aside0.mk (HO1.out.below hb2)
  have HZ2 := Aside0.mk hb2.size
  clear hb2 HB1 HQ1 HO1
  go_wp2_with fail
  have hrun := run_run HO2.out HZ2.out HS.out 5
  rw [HR.out.run] at hrun
  refine hrun.mono ?_
  rintro e w3 ⟨rfl, hT3⟩
  have HB3 := Aside0.mk (HB2.out.trans (hT3.2.2.mono (by omega)))
  have HO3 := Aside0.mk hT3.1
  have HQ3 := Aside0.mk (show w3.heap[w.heap.size]? = _ from (hT3.2.1.2 w.heap.size (blk_lt HQ2.out) (by have h1 := HO2.out.lp; have h2 := HO2.out.lm; unfold CB; omega)).trans HQ2.out)
  clear hT3 hrun HB2 HQ2 HO2 HZ2
  have hq := blk_cell HQ3.out 2
  go_wp2_with fail
  refine (pianolaref11_Reckon.calls 5 (recOp 2) a b v ok w3 HR.out.rec_).mono ?_
  rintro e w4 ⟨rfl, hd4⟩
  obtain ⟨n4, rfl⟩ := hd4.out
  clear hd4 hq
  have HO4 := Aside0.mk (HO3.out.drewN n4)
  have HB4 := Aside0.mk (below_dN0 HB3.out n4)
  cases ok
  · go_wp2_with fail
    refine (reg_run HO4.out 2).mono ?_
    rintro e w5 ⟨rfl, ⟨n5, rfl⟩⟩
    rw [HR.out.r2, HR.out.no rfl]
    go_wp2_with fail
    go_ret
    exact ⟨rfl, below_dN0 HB3.out (n4 + n5)⟩
  · go_wp2_with fail
    refine (reg_run HO4.out 2).mono ?_
    rintro e w5 ⟨rfl, ⟨n5, rfl⟩⟩
    rw [HR.out.r2]
    have HO5 := Aside0.mk (HO3.out.drewN (n4 + n5))
    have HB5 := Aside0.mk (below_dN0 HB3.out (n4 + n5))
    go_wp2_with fail
    refine (reg_run HO5.out 0).mono ?_
    rintro e w6 ⟨rfl, ⟨n6, rfl⟩⟩
    rw [HR.out.r0]
    have HO6 := Aside0.mk (HO3.out.drewN (n4 + n5 + n6))
    have HB6 := Aside0.mk (below_dN0 HB3.out (n4 + n5 + n6))
    go_wp2_with fail
    refine (reg_run HO6.out 1).mono ?_
    rintro e w7 ⟨rfl, ⟨n7, rfl⟩⟩
    rw [HR.out.r1]
    go_wp2_with fail
    go_ret
    exact ⟨rfl, below_dN0 HB3.out (n4 + n5 + n6 + n7)⟩
set_option maxRecDepth 100000 in
set_option maxHeartbeats 64000000 in
theorem reckons_walk3n (a b c : Int) (ht : Int.tmod c 9 = -3) (ha : -9223372036854775808 ≤ a) (ha1 : a < 9223372036854775808) (w : World) :
    Calls Try.prog 9 #[.int .i64 a, .int .i64 b, .int .i64 c] w (reckP w) := by
  obtain ⟨W, v, ok, s, hR⟩ := reckons 3 (by decide) a b ha ha1
  have HR := Aside0.mk hR
  have hs := SOK_regs [a, b] 2 (SOK_new [W] 256 (show 1 ≤ 65536 by omega))
  have HS := Aside0.mk hs
  have hne : ∀ W, (binOp .neq 53 (.agg #[.int .i64 1, .int .i64 0, .int .i64 1]) (.agg #[.int .i64 1, .int .i64 0, .int .i64 1])).run Try.prog W = .ok (.bool false) W := fun _ => by kernel_rfl
  have hu := Try.underlying53
  clear hR hs ha ha1
  go_enter Try.func9, Try.ntmps9
  go_wp2_with fail
  have HBK := Aside0.mk (blk_alloc (blk_alloc (blk_alloc (blk_alloc (blk_new w (.cells #[.int .i64 8, .int .i64 9, .int .i64 10, .int .i64 11, .int .i64 13, .int .i64 14, .int .i64 15, .int .i64 16, .int .i64 17] 3)) (.cells #[.int .i64 1, .int .i64 2, .int .i64 11, .int .i64 13, .int .i64 7, .int .i64 8, .int .i64 9, .int .i64 14, .int .i64 15] 3)) (.cells (insL (insK 3)).toArray 61)) (.cells (insL (insK 3)).toArray 61)) (.cells #[.int .i64 a, .int .i64 b] 3))
  refine (processor_run 10 _ (some ⟨w.heap.size + 1 + 1 + 1, 0, none⟩) 1 [insK _] (some ⟨w.heap.size + 1 + 1 + 1 + 1, 0, none⟩) 2 [a, b] (two_blocks _ _ (by simp only [World.size_alloc]) _ a b).1 (Nat.le_refl 1) (two_blocks _ _ (by simp only [World.size_alloc]) _ a b).2 (Nat.le_refl 2) [W] 1 HR.out.all (show 1 ≤ 65536 by omega)).mono ?_
  rintro e w1 ⟨p, A, cc, bm, rfl, hO, hb⟩
  have HB1 := Aside0.mk (show Below w.heap.size w w1 from (below_alloc (below_alloc (below_alloc (below_alloc (below_alloc (Below.refl _ w) _) _) _) _) _).trans (hb.mono (by simp only [World.size_alloc]; omega)))
  have HQ1 := Aside0.mk (blk_below HBK.out hb)
  have HO1 := Aside0.mk (show COK w1 69 (w.heap.size + 1) w1.heap.size p A cc bm (setRegs [a, b] 2 (newC [W] 256)) from hO.lower (by simp only [World.size_alloc]; omega))
  clear hb hO HBK
  go_wp2_with fail
  refine (pianolalaw14_lives.calls true _ rfl).mono ?_
  rintro e w2 ⟨rfl, hb2⟩
  have HB2 := Aside0.mk (HB1.out.trans (hb2.mono HB1.out.size))
  have HQ2 := Aside0.mk (blk_below HQ1.out hb2)
  have HO2 := Aside0.mk (HO1.out.below hb2)
  have HZ2 := Aside0.mk hb2.size
  clear hb2 HB1 HQ1 HO1
  go_wp2_with fail
  have hrun := run_run HO2.out HZ2.out HS.out 5
  rw [HR.out.run] at hrun
  refine hrun.mono ?_
  rintro e w3 ⟨rfl, hT3⟩
  have HB3 := Aside0.mk (HB2.out.trans (hT3.2.2.mono (by omega)))
  have HO3 := Aside0.mk hT3.1
  have HQ3 := Aside0.mk (show w3.heap[w.heap.size]? = _ from (hT3.2.1.2 w.heap.size (blk_lt HQ2.out) (by have h1 := HO2.out.lp; have h2 := HO2.out.lm; unfold CB; omega)).trans HQ2.out)
  clear hT3 hrun HB2 HQ2 HO2 HZ2
  have hq := blk_cell HQ3.out 3
  go_wp2_with fail
  refine (pianolaref11_Reckon.calls 5 (recOp 3) a b v ok w3 HR.out.rec_).mono ?_
  rintro e w4 ⟨rfl, hd4⟩
  obtain ⟨n4, rfl⟩ := hd4.out
  clear hd4 hq
  have HO4 := Aside0.mk (HO3.out.drewN n4)
  have HB4 := Aside0.mk (below_dN0 HB3.out n4)
  cases ok
  · go_wp2_with fail
    refine (reg_run HO4.out 2).mono ?_
    rintro e w5 ⟨rfl, ⟨n5, rfl⟩⟩
    rw [HR.out.r2, HR.out.no rfl]
    go_wp2_with fail
    go_ret
    exact ⟨rfl, below_dN0 HB3.out (n4 + n5)⟩
  · go_wp2_with fail
    refine (reg_run HO4.out 2).mono ?_
    rintro e w5 ⟨rfl, ⟨n5, rfl⟩⟩
    rw [HR.out.r2]
    have HO5 := Aside0.mk (HO3.out.drewN (n4 + n5))
    have HB5 := Aside0.mk (below_dN0 HB3.out (n4 + n5))
    go_wp2_with fail
    refine (reg_run HO5.out 0).mono ?_
    rintro e w6 ⟨rfl, ⟨n6, rfl⟩⟩
    rw [HR.out.r0]
    have HO6 := Aside0.mk (HO3.out.drewN (n4 + n5 + n6))
    have HB6 := Aside0.mk (below_dN0 HB3.out (n4 + n5 + n6))
    go_wp2_with fail
    refine (reg_run HO6.out 1).mono ?_
    rintro e w7 ⟨rfl, ⟨n7, rfl⟩⟩
    rw [HR.out.r1]
    go_wp2_with fail
    go_ret
    exact ⟨rfl, below_dN0 HB3.out (n4 + n5 + n6 + n7)⟩
set_option maxRecDepth 100000 in
set_option maxHeartbeats 64000000 in
theorem reckons_walk4n (a b c : Int) (ht : Int.tmod c 9 = -4) (ha : -9223372036854775808 ≤ a) (ha1 : a < 9223372036854775808) (w : World) :
    Calls Try.prog 9 #[.int .i64 a, .int .i64 b, .int .i64 c] w (reckP w) := by
  obtain ⟨W, v, ok, s, hR⟩ := reckons 4 (by decide) a b ha ha1
  have HR := Aside0.mk hR
  have hs := SOK_regs [a, b] 2 (SOK_new [W] 256 (show 1 ≤ 65536 by omega))
  have HS := Aside0.mk hs
  have hne : ∀ W, (binOp .neq 53 (.agg #[.int .i64 1, .int .i64 0, .int .i64 1]) (.agg #[.int .i64 1, .int .i64 0, .int .i64 1])).run Try.prog W = .ok (.bool false) W := fun _ => by kernel_rfl
  have hu := Try.underlying53
  clear hR hs ha ha1
  go_enter Try.func9, Try.ntmps9
  go_wp2_with fail
  have HBK := Aside0.mk (blk_alloc (blk_alloc (blk_alloc (blk_alloc (blk_new w (.cells #[.int .i64 8, .int .i64 9, .int .i64 10, .int .i64 11, .int .i64 13, .int .i64 14, .int .i64 15, .int .i64 16, .int .i64 17] 3)) (.cells #[.int .i64 1, .int .i64 2, .int .i64 11, .int .i64 13, .int .i64 7, .int .i64 8, .int .i64 9, .int .i64 14, .int .i64 15] 3)) (.cells (insL (insK 4)).toArray 61)) (.cells (insL (insK 4)).toArray 61)) (.cells #[.int .i64 a, .int .i64 b] 3))
  refine (processor_run 10 _ (some ⟨w.heap.size + 1 + 1 + 1, 0, none⟩) 1 [insK _] (some ⟨w.heap.size + 1 + 1 + 1 + 1, 0, none⟩) 2 [a, b] (two_blocks _ _ (by simp only [World.size_alloc]) _ a b).1 (Nat.le_refl 1) (two_blocks _ _ (by simp only [World.size_alloc]) _ a b).2 (Nat.le_refl 2) [W] 1 HR.out.all (show 1 ≤ 65536 by omega)).mono ?_
  rintro e w1 ⟨p, A, cc, bm, rfl, hO, hb⟩
  have HB1 := Aside0.mk (show Below w.heap.size w w1 from (below_alloc (below_alloc (below_alloc (below_alloc (below_alloc (Below.refl _ w) _) _) _) _) _).trans (hb.mono (by simp only [World.size_alloc]; omega)))
  have HQ1 := Aside0.mk (blk_below HBK.out hb)
  have HO1 := Aside0.mk (show COK w1 69 (w.heap.size + 1) w1.heap.size p A cc bm (setRegs [a, b] 2 (newC [W] 256)) from hO.lower (by simp only [World.size_alloc]; omega))
  clear hb hO HBK
  go_wp2_with fail
  refine (pianolalaw14_lives.calls true _ rfl).mono ?_
  rintro e w2 ⟨rfl, hb2⟩
  have HB2 := Aside0.mk (HB1.out.trans (hb2.mono HB1.out.size))
  have HQ2 := Aside0.mk (blk_below HQ1.out hb2)
  have HO2 := Aside0.mk (HO1.out.below hb2)
  have HZ2 := Aside0.mk hb2.size
  clear hb2 HB1 HQ1 HO1
  go_wp2_with fail
  have hrun := run_run HO2.out HZ2.out HS.out 5
  rw [HR.out.run] at hrun
  refine hrun.mono ?_
  rintro e w3 ⟨rfl, hT3⟩
  have HB3 := Aside0.mk (HB2.out.trans (hT3.2.2.mono (by omega)))
  have HO3 := Aside0.mk hT3.1
  have HQ3 := Aside0.mk (show w3.heap[w.heap.size]? = _ from (hT3.2.1.2 w.heap.size (blk_lt HQ2.out) (by have h1 := HO2.out.lp; have h2 := HO2.out.lm; unfold CB; omega)).trans HQ2.out)
  clear hT3 hrun HB2 HQ2 HO2 HZ2
  have hq := blk_cell HQ3.out 4
  go_wp2_with fail
  refine (pianolaref11_Reckon.calls 5 (recOp 4) a b v ok w3 HR.out.rec_).mono ?_
  rintro e w4 ⟨rfl, hd4⟩
  obtain ⟨n4, rfl⟩ := hd4.out
  clear hd4 hq
  have HO4 := Aside0.mk (HO3.out.drewN n4)
  have HB4 := Aside0.mk (below_dN0 HB3.out n4)
  cases ok
  · go_wp2_with fail
    refine (reg_run HO4.out 2).mono ?_
    rintro e w5 ⟨rfl, ⟨n5, rfl⟩⟩
    rw [HR.out.r2, HR.out.no rfl]
    go_wp2_with fail
    go_ret
    exact ⟨rfl, below_dN0 HB3.out (n4 + n5)⟩
  · go_wp2_with fail
    refine (reg_run HO4.out 2).mono ?_
    rintro e w5 ⟨rfl, ⟨n5, rfl⟩⟩
    rw [HR.out.r2]
    have HO5 := Aside0.mk (HO3.out.drewN (n4 + n5))
    have HB5 := Aside0.mk (below_dN0 HB3.out (n4 + n5))
    go_wp2_with fail
    refine (reg_run HO5.out 0).mono ?_
    rintro e w6 ⟨rfl, ⟨n6, rfl⟩⟩
    rw [HR.out.r0]
    have HO6 := Aside0.mk (HO3.out.drewN (n4 + n5 + n6))
    have HB6 := Aside0.mk (below_dN0 HB3.out (n4 + n5 + n6))
    go_wp2_with fail
    refine (reg_run HO6.out 1).mono ?_
    rintro e w7 ⟨rfl, ⟨n7, rfl⟩⟩
    rw [HR.out.r1]
    go_wp2_with fail
    go_ret
    exact ⟨rfl, below_dN0 HB3.out (n4 + n5 + n6 + n7)⟩
set_option maxRecDepth 100000 in
set_option maxHeartbeats 64000000 in
theorem reckons_walk5n (a b c : Int) (ht : Int.tmod c 9 = -5) (ha : -9223372036854775808 ≤ a) (ha1 : a < 9223372036854775808) (w : World) :
    Calls Try.prog 9 #[.int .i64 a, .int .i64 b, .int .i64 c] w (reckP w) := by
  obtain ⟨W, v, ok, s, hR⟩ := reckons 5 (by decide) a b ha ha1
  have HR := Aside0.mk hR
  have hs := SOK_regs [a, b] 2 (SOK_new [W] 256 (show 1 ≤ 65536 by omega))
  have HS := Aside0.mk hs
  have hne : ∀ W, (binOp .neq 53 (.agg #[.int .i64 1, .int .i64 0, .int .i64 1]) (.agg #[.int .i64 1, .int .i64 0, .int .i64 1])).run Try.prog W = .ok (.bool false) W := fun _ => by kernel_rfl
  have hu := Try.underlying53
  clear hR hs ha ha1
  go_enter Try.func9, Try.ntmps9
  go_wp2_with fail
  have HBK := Aside0.mk (blk_alloc (blk_alloc (blk_alloc (blk_alloc (blk_new w (.cells #[.int .i64 8, .int .i64 9, .int .i64 10, .int .i64 11, .int .i64 13, .int .i64 14, .int .i64 15, .int .i64 16, .int .i64 17] 3)) (.cells #[.int .i64 1, .int .i64 2, .int .i64 11, .int .i64 13, .int .i64 7, .int .i64 8, .int .i64 9, .int .i64 14, .int .i64 15] 3)) (.cells (insL (insK 5)).toArray 61)) (.cells (insL (insK 5)).toArray 61)) (.cells #[.int .i64 a, .int .i64 b] 3))
  refine (processor_run 10 _ (some ⟨w.heap.size + 1 + 1 + 1, 0, none⟩) 1 [insK _] (some ⟨w.heap.size + 1 + 1 + 1 + 1, 0, none⟩) 2 [a, b] (two_blocks _ _ (by simp only [World.size_alloc]) _ a b).1 (Nat.le_refl 1) (two_blocks _ _ (by simp only [World.size_alloc]) _ a b).2 (Nat.le_refl 2) [W] 1 HR.out.all (show 1 ≤ 65536 by omega)).mono ?_
  rintro e w1 ⟨p, A, cc, bm, rfl, hO, hb⟩
  have HB1 := Aside0.mk (show Below w.heap.size w w1 from (below_alloc (below_alloc (below_alloc (below_alloc (below_alloc (Below.refl _ w) _) _) _) _) _).trans (hb.mono (by simp only [World.size_alloc]; omega)))
  have HQ1 := Aside0.mk (blk_below HBK.out hb)
  have HO1 := Aside0.mk (show COK w1 69 (w.heap.size + 1) w1.heap.size p A cc bm (setRegs [a, b] 2 (newC [W] 256)) from hO.lower (by simp only [World.size_alloc]; omega))
  clear hb hO HBK
  go_wp2_with fail
  refine (pianolalaw14_lives.calls true _ rfl).mono ?_
  rintro e w2 ⟨rfl, hb2⟩
  have HB2 := Aside0.mk (HB1.out.trans (hb2.mono HB1.out.size))
  have HQ2 := Aside0.mk (blk_below HQ1.out hb2)
  have HO2 := Aside0.mk (HO1.out.below hb2)
  have HZ2 := Aside0.mk hb2.size
  clear hb2 HB1 HQ1 HO1
  go_wp2_with fail
  have hrun := run_run HO2.out HZ2.out HS.out 5
  rw [HR.out.run] at hrun
  refine hrun.mono ?_
  rintro e w3 ⟨rfl, hT3⟩
  have HB3 := Aside0.mk (HB2.out.trans (hT3.2.2.mono (by omega)))
  have HO3 := Aside0.mk hT3.1
  have HQ3 := Aside0.mk (show w3.heap[w.heap.size]? = _ from (hT3.2.1.2 w.heap.size (blk_lt HQ2.out) (by have h1 := HO2.out.lp; have h2 := HO2.out.lm; unfold CB; omega)).trans HQ2.out)
  clear hT3 hrun HB2 HQ2 HO2 HZ2
  have hq := blk_cell HQ3.out 5
  go_wp2_with fail
  refine (pianolaref11_Reckon.calls 5 (recOp 5) a b v ok w3 HR.out.rec_).mono ?_
  rintro e w4 ⟨rfl, hd4⟩
  obtain ⟨n4, rfl⟩ := hd4.out
  clear hd4 hq
  have HO4 := Aside0.mk (HO3.out.drewN n4)
  have HB4 := Aside0.mk (below_dN0 HB3.out n4)
  cases ok
  · go_wp2_with fail
    refine (reg_run HO4.out 2).mono ?_
    rintro e w5 ⟨rfl, ⟨n5, rfl⟩⟩
    rw [HR.out.r2, HR.out.no rfl]
    go_wp2_with fail
    go_ret
    exact ⟨rfl, below_dN0 HB3.out (n4 + n5)⟩
  · go_wp2_with fail
    refine (reg_run HO4.out 2).mono ?_
    rintro e w5 ⟨rfl, ⟨n5, rfl⟩⟩
    rw [HR.out.r2]
    have HO5 := Aside0.mk (HO3.out.drewN (n4 + n5))
    have HB5 := Aside0.mk (below_dN0 HB3.out (n4 + n5))
    go_wp2_with fail
    refine (reg_run HO5.out 0).mono ?_
    rintro e w6 ⟨rfl, ⟨n6, rfl⟩⟩
    rw [HR.out.r0]
    have HO6 := Aside0.mk (HO3.out.drewN (n4 + n5 + n6))
    have HB6 := Aside0.mk (below_dN0 HB3.out (n4 + n5 + n6))
    go_wp2_with fail
    refine (reg_run HO6.out 1).mono ?_
    rintro e w7 ⟨rfl, ⟨n7, rfl⟩⟩
    rw [HR.out.r1]
    go_wp2_with fail
    go_ret
    exact ⟨rfl, below_dN0 HB3.out (n4 + n5 + n6 + n7)⟩
set_option maxRecDepth 100000 in
set_option maxHeartbeats 64000000 in
theorem reckons_walk6n (a b c : Int) (ht : Int.tmod c 9 = -6) (ha : -9223372036854775808 ≤ a) (ha1 : a < 9223372036854775808) (w : World) :
    Calls Try.prog 9 #[.int .i64 a, .int .i64 b, .int .i64 c] w (reckP w) := by
  obtain ⟨W, v, ok, s, hR⟩ := reckons 6 (by decide) a b ha ha1
  have HR := Aside0.mk hR
  have hs := SOK_regs [a, b] 2 (SOK_new [W] 256 (show 1 ≤ 65536 by omega))
  have HS := Aside0.mk hs
  have hne : ∀ W, (binOp .neq 53 (.agg #[.int .i64 1, .int .i64 0, .int .i64 1]) (.agg #[.int .i64 1, .int .i64 0, .int .i64 1])).run Try.prog W = .ok (.bool false) W := fun _ => by kernel_rfl
  have hu := Try.underlying53
  clear hR hs ha ha1
  go_enter Try.func9, Try.ntmps9
  go_wp2_with fail
  have HBK := Aside0.mk (blk_alloc (blk_alloc (blk_alloc (blk_alloc (blk_new w (.cells #[.int .i64 8, .int .i64 9, .int .i64 10, .int .i64 11, .int .i64 13, .int .i64 14, .int .i64 15, .int .i64 16, .int .i64 17] 3)) (.cells #[.int .i64 1, .int .i64 2, .int .i64 11, .int .i64 13, .int .i64 7, .int .i64 8, .int .i64 9, .int .i64 14, .int .i64 15] 3)) (.cells (insL (insK 6)).toArray 61)) (.cells (insL (insK 6)).toArray 61)) (.cells #[.int .i64 a, .int .i64 b] 3))
  refine (processor_run 10 _ (some ⟨w.heap.size + 1 + 1 + 1, 0, none⟩) 1 [insK _] (some ⟨w.heap.size + 1 + 1 + 1 + 1, 0, none⟩) 2 [a, b] (two_blocks _ _ (by simp only [World.size_alloc]) _ a b).1 (Nat.le_refl 1) (two_blocks _ _ (by simp only [World.size_alloc]) _ a b).2 (Nat.le_refl 2) [W] 1 HR.out.all (show 1 ≤ 65536 by omega)).mono ?_
  rintro e w1 ⟨p, A, cc, bm, rfl, hO, hb⟩
  have HB1 := Aside0.mk (show Below w.heap.size w w1 from (below_alloc (below_alloc (below_alloc (below_alloc (below_alloc (Below.refl _ w) _) _) _) _) _).trans (hb.mono (by simp only [World.size_alloc]; omega)))
  have HQ1 := Aside0.mk (blk_below HBK.out hb)
  have HO1 := Aside0.mk (show COK w1 69 (w.heap.size + 1) w1.heap.size p A cc bm (setRegs [a, b] 2 (newC [W] 256)) from hO.lower (by simp only [World.size_alloc]; omega))
  clear hb hO HBK
  go_wp2_with fail
  refine (pianolalaw14_lives.calls true _ rfl).mono ?_
  rintro e w2 ⟨rfl, hb2⟩
  have HB2 := Aside0.mk (HB1.out.trans (hb2.mono HB1.out.size))
  have HQ2 := Aside0.mk (blk_below HQ1.out hb2)
  have HO2 := Aside0.mk (HO1.out.below hb2)
  have HZ2 := Aside0.mk hb2.size
  clear hb2 HB1 HQ1 HO1
  go_wp2_with fail
  have hrun := run_run HO2.out HZ2.out HS.out 5
  rw [HR.out.run] at hrun
  refine hrun.mono ?_
  rintro e w3 ⟨rfl, hT3⟩
  have HB3 := Aside0.mk (HB2.out.trans (hT3.2.2.mono (by omega)))
  have HO3 := Aside0.mk hT3.1
  have HQ3 := Aside0.mk (show w3.heap[w.heap.size]? = _ from (hT3.2.1.2 w.heap.size (blk_lt HQ2.out) (by have h1 := HO2.out.lp; have h2 := HO2.out.lm; unfold CB; omega)).trans HQ2.out)
  clear hT3 hrun HB2 HQ2 HO2 HZ2
  have hq := blk_cell HQ3.out 6
  go_wp2_with fail
  refine (pianolaref11_Reckon.calls 5 (recOp 6) a b v ok w3 HR.out.rec_).mono ?_
  rintro e w4 ⟨rfl, hd4⟩
  obtain ⟨n4, rfl⟩ := hd4.out
  clear hd4 hq
  have HO4 := Aside0.mk (HO3.out.drewN n4)
  have HB4 := Aside0.mk (below_dN0 HB3.out n4)
  cases ok
  · go_wp2_with fail
    refine (reg_run HO4.out 2).mono ?_
    rintro e w5 ⟨rfl, ⟨n5, rfl⟩⟩
    rw [HR.out.r2, HR.out.no rfl]
    go_wp2_with fail
    go_ret
    exact ⟨rfl, below_dN0 HB3.out (n4 + n5)⟩
  · go_wp2_with fail
    refine (reg_run HO4.out 2).mono ?_
    rintro e w5 ⟨rfl, ⟨n5, rfl⟩⟩
    rw [HR.out.r2]
    have HO5 := Aside0.mk (HO3.out.drewN (n4 + n5))
    have HB5 := Aside0.mk (below_dN0 HB3.out (n4 + n5))
    go_wp2_with fail
    refine (reg_run HO5.out 0).mono ?_
    rintro e w6 ⟨rfl, ⟨n6, rfl⟩⟩
    rw [HR.out.r0]
    have HO6 := Aside0.mk (HO3.out.drewN (n4 + n5 + n6))
    have HB6 := Aside0.mk (below_dN0 HB3.out (n4 + n5 + n6))
    go_wp2_with fail
    refine (reg_run HO6.out 1).mono ?_
    rintro e w7 ⟨rfl, ⟨n7, rfl⟩⟩
    rw [HR.out.r1]
    go_wp2_with fail
    go_ret
    exact ⟨rfl, below_dN0 HB3.out (n4 + n5 + n6 + n7)⟩
set_option maxRecDepth 100000 in
set_option maxHeartbeats 64000000 in
theorem reckons_walk7n (a b c : Int) (ht : Int.tmod c 9 = -7) (ha : -9223372036854775808 ≤ a) (ha1 : a < 9223372036854775808) (w : World) :
    Calls Try.prog 9 #[.int .i64 a, .int .i64 b, .int .i64 c] w (reckP w) := by
  obtain ⟨W, v, ok, s, hR⟩ := reckons 7 (by decide) a b ha ha1
  have HR := Aside0.mk hR
  have hs := SOK_regs [a, b] 2 (SOK_new [W] 256 (show 1 ≤ 65536 by omega))
  have HS := Aside0.mk hs
  have hne : ∀ W, (binOp .neq 53 (.agg #[.int .i64 1, .int .i64 0, .int .i64 1]) (.agg #[.int .i64 1, .int .i64 0, .int .i64 1])).run Try.prog W = .ok (.bool false) W := fun _ => by kernel_rfl
  have hu := Try.underlying53
  clear hR hs ha ha1
  go_enter Try.func9, Try.ntmps9
  go_wp2_with fail
  have HBK := Aside0.mk (blk_alloc (blk_alloc (blk_alloc (blk_alloc (blk_new w (.cells #[.int .i64 8, .int .i64 9, .int .i64 10, .int .i64 11, .int .i64 13, .int .i64 14, .int .i64 15, .int .i64 16, .int .i64 17] 3)) (.cells #[.int .i64 1, .int .i64 2, .int .i64 11, .int .i64 13, .int .i64 7, .int .i64 8, .int .i64 9, .int .i64 14, .int .i64 15] 3)) (.cells (insL (insK 7)).toArray 61)) (.cells (insL (insK 7)).toArray 61)) (.cells #[.int .i64 a, .int .i64 b] 3))
  refine (processor_run 10 _ (some ⟨w.heap.size + 1 + 1 + 1, 0, none⟩) 1 [insK _] (some ⟨w.heap.size + 1 + 1 + 1 + 1, 0, none⟩) 2 [a, b] (two_blocks _ _ (by simp only [World.size_alloc]) _ a b).1 (Nat.le_refl 1) (two_blocks _ _ (by simp only [World.size_alloc]) _ a b).2 (Nat.le_refl 2) [W] 1 HR.out.all (show 1 ≤ 65536 by omega)).mono ?_
  rintro e w1 ⟨p, A, cc, bm, rfl, hO, hb⟩
  have HB1 := Aside0.mk (show Below w.heap.size w w1 from (below_alloc (below_alloc (below_alloc (below_alloc (below_alloc (Below.refl _ w) _) _) _) _) _).trans (hb.mono (by simp only [World.size_alloc]; omega)))
  have HQ1 := Aside0.mk (blk_below HBK.out hb)
  have HO1 := Aside0.mk (show COK w1 69 (w.heap.size + 1) w1.heap.size p A cc bm (setRegs [a, b] 2 (newC [W] 256)) from hO.lower (by simp only [World.size_alloc]; omega))
  clear hb hO HBK
  go_wp2_with fail
  refine (pianolalaw14_lives.calls true _ rfl).mono ?_
  rintro e w2 ⟨rfl, hb2⟩
  have HB2 := Aside0.mk (HB1.out.trans (hb2.mono HB1.out.size))
  have HQ2 := Aside0.mk (blk_below HQ1.out hb2)
  have HO2 := Aside0.mk (HO1.out.below hb2)
  have HZ2 := Aside0.mk hb2.size
  clear hb2 HB1 HQ1 HO1
  go_wp2_with fail
  have hrun := run_run HO2.out HZ2.out HS.out 5
  rw [HR.out.run] at hrun
  refine hrun.mono ?_
  rintro e w3 ⟨rfl, hT3⟩
  have HB3 := Aside0.mk (HB2.out.trans (hT3.2.2.mono (by omega)))
  have HO3 := Aside0.mk hT3.1
  have HQ3 := Aside0.mk (show w3.heap[w.heap.size]? = _ from (hT3.2.1.2 w.heap.size (blk_lt HQ2.out) (by have h1 := HO2.out.lp; have h2 := HO2.out.lm; unfold CB; omega)).trans HQ2.out)
  clear hT3 hrun HB2 HQ2 HO2 HZ2
  have hq := blk_cell HQ3.out 7
  go_wp2_with fail
  refine (pianolaref11_Reckon.calls 5 (recOp 7) a b v ok w3 HR.out.rec_).mono ?_
  rintro e w4 ⟨rfl, hd4⟩
  obtain ⟨n4, rfl⟩ := hd4.out
  clear hd4 hq
  have HO4 := Aside0.mk (HO3.out.drewN n4)
  have HB4 := Aside0.mk (below_dN0 HB3.out n4)
  cases ok
  · go_wp2_with fail
    refine (reg_run HO4.out 2).mono ?_
    rintro e w5 ⟨rfl, ⟨n5, rfl⟩⟩
    rw [HR.out.r2, HR.out.no rfl]
    go_wp2_with fail
    go_ret
    exact ⟨rfl, below_dN0 HB3.out (n4 + n5)⟩
  · go_wp2_with fail
    refine (reg_run HO4.out 2).mono ?_
    rintro e w5 ⟨rfl, ⟨n5, rfl⟩⟩
    rw [HR.out.r2]
    have HO5 := Aside0.mk (HO3.out.drewN (n4 + n5))
    have HB5 := Aside0.mk (below_dN0 HB3.out (n4 + n5))
    go_wp2_with fail
    refine (reg_run HO5.out 0).mono ?_
    rintro e w6 ⟨rfl, ⟨n6, rfl⟩⟩
    rw [HR.out.r0]
    have HO6 := Aside0.mk (HO3.out.drewN (n4 + n5 + n6))
    have HB6 := Aside0.mk (below_dN0 HB3.out (n4 + n5 + n6))
    go_wp2_with fail
    refine (reg_run HO6.out 1).mono ?_
    rintro e w7 ⟨rfl, ⟨n7, rfl⟩⟩
    rw [HR.out.r1]
    go_wp2_with fail
    go_ret
    exact ⟨rfl, below_dN0 HB3.out (n4 + n5 + n6 + n7)⟩
set_option maxRecDepth 100000 in
set_option maxHeartbeats 64000000 in
theorem reckons_walk8n (a b c : Int) (ht : Int.tmod c 9 = -8) (ha : -9223372036854775808 ≤ a) (ha1 : a < 9223372036854775808) (w : World) :
    Calls Try.prog 9 #[.int .i64 a, .int .i64 b, .int .i64 c] w (reckP w) := by
  obtain ⟨W, v, ok, s, hR⟩ := reckons 8 (by decide) a b ha ha1
  have HR := Aside0.mk hR
  have hs := SOK_regs [a, b] 2 (SOK_new [W] 256 (show 1 ≤ 65536 by omega))
  have HS := Aside0.mk hs
  have hne : ∀ W, (binOp .neq 53 (.agg #[.int .i64 1, .int .i64 0, .int .i64 1]) (.agg #[.int .i64 1, .int .i64 0, .int .i64 1])).run Try.prog W = .ok (.bool false) W := fun _ => by kernel_rfl
  have hu := Try.underlying53
  clear hR hs ha ha1
  go_enter Try.func9, Try.ntmps9
  go_wp2_with fail
  have HBK := Aside0.mk (blk_alloc (blk_alloc (blk_alloc (blk_alloc (blk_new w (.cells #[.int .i64 8, .int .i64 9, .int .i64 10, .int .i64 11, .int .i64 13, .int .i64 14, .int .i64 15, .int .i64 16, .int .i64 17] 3)) (.cells #[.int .i64 1, .int .i64 2, .int .i64 11, .int .i64 13, .int .i64 7, .int .i64 8, .int .i64 9, .int .i64 14, .int .i64 15] 3)) (.cells (insL (insK 8)).toArray 61)) (.cells (insL (insK 8)).toArray 61)) (.cells #[.int .i64 a, .int .i64 b] 3))
  refine (processor_run 10 _ (some ⟨w.heap.size + 1 + 1 + 1, 0, none⟩) 1 [insK _] (some ⟨w.heap.size + 1 + 1 + 1 + 1, 0, none⟩) 2 [a, b] (two_blocks _ _ (by simp only [World.size_alloc]) _ a b).1 (Nat.le_refl 1) (two_blocks _ _ (by simp only [World.size_alloc]) _ a b).2 (Nat.le_refl 2) [W] 1 HR.out.all (show 1 ≤ 65536 by omega)).mono ?_
  rintro e w1 ⟨p, A, cc, bm, rfl, hO, hb⟩
  have HB1 := Aside0.mk (show Below w.heap.size w w1 from (below_alloc (below_alloc (below_alloc (below_alloc (below_alloc (Below.refl _ w) _) _) _) _) _).trans (hb.mono (by simp only [World.size_alloc]; omega)))
  have HQ1 := Aside0.mk (blk_below HBK.out hb)
  have HO1 := Aside0.mk (show COK w1 69 (w.heap.size + 1) w1.heap.size p A cc bm (setRegs [a, b] 2 (newC [W] 256)) from hO.lower (by simp only [World.size_alloc]; omega))
  clear hb hO HBK
  go_wp2_with fail
  refine (pianolalaw14_lives.calls true _ rfl).mono ?_
  rintro e w2 ⟨rfl, hb2⟩
  have HB2 := Aside0.mk (HB1.out.trans (hb2.mono HB1.out.size))
  have HQ2 := Aside0.mk (blk_below HQ1.out hb2)
  have HO2 := Aside0.mk (HO1.out.below hb2)
  have HZ2 := Aside0.mk hb2.size
  clear hb2 HB1 HQ1 HO1
  go_wp2_with fail
  have hrun := run_run HO2.out HZ2.out HS.out 5
  rw [HR.out.run] at hrun
  refine hrun.mono ?_
  rintro e w3 ⟨rfl, hT3⟩
  have HB3 := Aside0.mk (HB2.out.trans (hT3.2.2.mono (by omega)))
  have HO3 := Aside0.mk hT3.1
  have HQ3 := Aside0.mk (show w3.heap[w.heap.size]? = _ from (hT3.2.1.2 w.heap.size (blk_lt HQ2.out) (by have h1 := HO2.out.lp; have h2 := HO2.out.lm; unfold CB; omega)).trans HQ2.out)
  clear hT3 hrun HB2 HQ2 HO2 HZ2
  have hq := blk_cell HQ3.out 8
  go_wp2_with fail
  refine (pianolaref11_Reckon.calls 5 (recOp 8) a b v ok w3 HR.out.rec_).mono ?_
  rintro e w4 ⟨rfl, hd4⟩
  obtain ⟨n4, rfl⟩ := hd4.out
  clear hd4 hq
  have HO4 := Aside0.mk (HO3.out.drewN n4)
  have HB4 := Aside0.mk (below_dN0 HB3.out n4)
  cases ok
  · go_wp2_with fail
    refine (reg_run HO4.out 2).mono ?_
    rintro e w5 ⟨rfl, ⟨n5, rfl⟩⟩
    rw [HR.out.r2, HR.out.no rfl]
    go_wp2_with fail
    go_ret
    exact ⟨rfl, below_dN0 HB3.out (n4 + n5)⟩
  · go_wp2_with fail
    refine (reg_run HO4.out 2).mono ?_
    rintro e w5 ⟨rfl, ⟨n5, rfl⟩⟩
    rw [HR.out.r2]
    have HO5 := Aside0.mk (HO3.out.drewN (n4 + n5))
    have HB5 := Aside0.mk (below_dN0 HB3.out (n4 + n5))
    go_wp2_with fail
    refine (reg_run HO5.out 0).mono ?_
    rintro e w6 ⟨rfl, ⟨n6, rfl⟩⟩
    rw [HR.out.r0]
    have HO6 := Aside0.mk (HO3.out.drewN (n4 + n5 + n6))
    have HB6 := Aside0.mk (below_dN0 HB3.out (n4 + n5 + n6))
    go_wp2_with fail
    refine (reg_run HO6.out 1).mono ?_
    rintro e w7 ⟨rfl, ⟨n7, rfl⟩⟩
    rw [HR.out.r1]
    go_wp2_with fail
    go_ret
    exact ⟨rfl, below_dN0 HB3.out (n4 + n5 + n6 + n7)⟩
theorem reckons_walk (a b c : Int) (k : Nat) (t : Int) (hk : k < 9) (htk : t = (k : Int) ∨ t = -(k : Int)) (ht : Int.tmod c 9 = t) (ha : -9223372036854775808 ≤ a) (ha1 : a < 9223372036854775808) (w : World) :
    Calls Try.prog 9 #[.int .i64 a, .int .i64 b, .int .i64 c] w (reckP w) := by
  have hc : k = 0 ∨ k = 1 ∨ k = 2 ∨ k = 3 ∨ k = 4 ∨ k = 5 ∨ k = 6 ∨ k = 7 ∨ k = 8 := by omega
  rcases hc with rfl | rfl | rfl | rfl | rfl | rfl | rfl | rfl | rfl <;> rcases htk with rfl | rfl
  · exact reckons_walk0 a b c ht ha ha1 w
  · exact reckons_walk0 a b c (by simpa using ht) ha ha1 w
  · exact reckons_walk1 a b c ht ha ha1 w
  · exact reckons_walk1n a b c ht ha ha1 w
  · exact reckons_walk2 a b c ht ha ha1 w
  · exact reckons_walk2n a b c ht ha ha1 w
  · exact reckons_walk3 a b c ht ha ha1 w
  · exact reckons_walk3n a b c ht ha ha1 w
  · exact reckons_walk4 a b c ht ha ha1 w
  · exact reckons_walk4n a b c ht ha ha1 w
  · exact reckons_walk5 a b c ht ha ha1 w
  · exact reckons_walk5n a b c ht ha ha1 w
  · exact reckons_walk6 a b c ht ha ha1 w
  · exact reckons_walk6n a b c ht ha ha1 w
  · exact reckons_walk7 a b c ht ha ha1 w
  · exact reckons_walk7n a b c ht ha ha1 w
  · exact reckons_walk8 a b c ht ha ha1 w
  · exact reckons_walk8n a b c ht ha ha1 w
theorem pianolalaw14_CpuReckons.calls (a0 a1 a2 : Int) (r : Bool) (w : World) (h : pianolalaw14_CpuReckons.f a0 a1 a2 = some r) :
    Calls Try.prog 9 #[.int .i64 a0, .int .i64 a1, .int .i64 a2] w fun e w' => e = .returned (.bool r) ∧ Below w.heap.size w w' := by
  unfold pianolalaw14_CpuReckons.f at h
  split at h
  · rename_i hb
    obtain rfl : r = true := (Option.some.inj h).symm
    have h1 : -8 ≤ Int.tmod a2 9 ∧ Int.tmod a2 9 ≤ 8 := by
      by_cases h0 : 0 ≤ a2
      · rw [Int.tmod_eq_emod_of_nonneg h0]; omega
      · have e : a2 = -(-a2) := by omega
        rw [e, Int.neg_tmod, Int.tmod_eq_emod_of_nonneg (by omega)]; omega
    exact reckons_walk a0 a1 a2 (Int.tmod a2 9).natAbs (Int.tmod a2 9) (by omega) (by omega) rfl hb.1 hb.2.1 w
  · exact absurd h (by simp)

end Go.Proofs.Ytjhgbddcenhkfaa.P
