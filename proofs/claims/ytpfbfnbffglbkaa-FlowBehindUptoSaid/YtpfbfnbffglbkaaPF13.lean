/- Ytpfbfnbffglbkaa: what Go functions come to, and that they do: walks, printed by a program of this session or typed by hand; no statement of the seat stands here. -/
import Derived.Test.YtpfbfnbffglbkaaP0
import Derived.Test.YtpfbfnbffglbkaaPF17
import Derived.Test.YtpfbfnbffglbkaaPF14
import Derived.Test.YtpfbfnbffglbkaaPF21
import Derived.Test.YtpfbfnbffglbkaaPF20
import Derived.Test.YtpfbfnbffglbkaaPF22
import Derived.Test.YtpfbfnbffglbkaaFlowD
import Derived.Test.YtpfbfnbffglbkaaPF14
import Derived.Test.YtpfbfnbffglbkaaPF20
import Derived.Test.YtpfbfnbffglbkaaPF22
import Derived.Test.YtpfbfnbffglbkaaWRepsOne
namespace Go.Proofs.Ytpfbfnbffglbkaa.P
open Go.RowKit Go.Proofs.YtpfbfnbffglbkaaW.PrintWords Go.Proofs.YtpfbfnbffglbkaaW.PrintLast Go.Proofs.YtpfbfnbffglbkaaW.PrintMore
attribute [local go_sem] max2_int min2_int max_two min_two max_three min_three max_four min_four   -- for this text's walks alone
set_option linter.unusedVariables false
set_option linter.unusedSimpArgs false


/-! ### pianolalaw08_lives: function 13 -/
-- IMPORT Derived.Test.YtpfbfnbffglbkaaFlowD
-- IMPORT Derived.Test.YtpfbfnbffglbkaaWRepsOne
-- IMPORT Derived.Test.YtpfbfnbffglbkaaPF22
-- IMPORT Derived.Test.YtpfbfnbffglbkaaPF14
-- IMPORT Derived.Test.YtpfbfnbffglbkaaPF20
def pianolalaw08_lives.f : Option Bool := some true
def ins3 : List S34 := [⟨30, 6⟩, ⟨29, 0⟩, ⟨32, 0⟩]
def blo3 : List S30 := [⟨0, 1, [1, 2]⟩, ⟨1, 2, [0]⟩, ⟨2, 3, []⟩]
theorem blk3 : flow_Blocks.f 60 ins3 [0, 3, 6] = some (blo3, 0, 3) := by kernel_rfl
theorem over3 : flow_Over.f 60 blo3 = some [-1, 0, 0] := by kernel_rfl
theorem reach3 : flow_Reached.f 60 blo3 = some [true, true, true] := by kernel_rfl
theorem order3 : flow_Order.f blo3 = some [0, 2, 1] := by kernel_rfl
theorem ends31 : flow_Ends.f 31 = some true := by kernel_rfl
theorem C_ins3 (w : World) : Kd.C k34 (w.alloc (.cells #[.int .i64 30, .int .i64 6, .int .i64 29, .int .i64 0, .int .i64 32, .int .i64 0] 34)) (some ⟨w.heap.size, 0, none⟩) 3 ins3 := by
  have h := World.ownsRow_lit (base := w.heap.size) (e := 34) (size := 2) w #[.int .i64 30, .int .i64 6, .int .i64 29, .int .i64 0, .int .i64 32, .int .i64 0] 3 (Nat.le_refl _) (by decide) (by decide)
  have hr : Kd.R k34 34 (w.alloc (.cells #[.int .i64 30, .int .i64 6, .int .i64 29, .int .i64 0, .int .i64 32, .int .i64 0] 34)) w.heap.size (fun _ => True) (.slice (some ⟨w.heap.size, 0, none⟩) 3 3) ins3 :=
    ⟨fun _ _ => trivial, _, h, Reps.c2 (k34_mkM _ _ _ ⟨30, 6⟩) (Reps.c2 (k34_mkM _ _ _ ⟨29, 0⟩) (Reps.c2 (k34_mkM _ _ _ ⟨32, 0⟩) (Reps.none _ _)))⟩
  obtain ⟨A, c, he, _, hc⟩ := Kd.R_reads hr
  simp only [Value.slice.injEq] at he
  obtain ⟨rfl, _, _⟩ := he
  exact hc
set_option maxRecDepth 100000 in
set_option maxHeartbeats 1000000 in
theorem pianolalaw08_lives.calls (r : Bool) (w : World) (h : pianolalaw08_lives.f = some r) : Calls Try.prog 13 #[] w fun e w' => e = .returned (.bool r) ∧ Below w.heap.size w w' := by
  obtain rfl := Option.some.inj h
  clear h
  have HC := Aside0.mk (C_ins3 w)
  have hp := C_newI (w.alloc (.cells #[.int .i64 30, .int .i64 6, .int .i64 29, .int .i64 0, .int .i64 32, .int .i64 0] 34)) [0, 3, 6] (by decide)
  rw [World.size_alloc] at hp
  have hcB := flow_Blocks.calls 60 _ _ ins3 _ _ [0, 3, 6] _ _ _ _ (Kd.C_alloc HC.out (.cells #[.int .i64 0, .int .i64 3, .int .i64 6] 3)) (Nat.le_refl 3) hp (Nat.le_refl 3) blk3
  have HCB := Aside0.mk hcB
  clear hp hcB
  have hnil : ∀ (b : Nat) (W : World), (binOp .eql 43 (.func (.func 44) #[] #[.pointer (some ⟨b, 0, none⟩)]) .nilFunc).run Try.prog W = .ok (.bool false) W := fun _ _ => by kernel_rfl
  go_enter Try.func13, Try.ntmps13
  go_wp2_with fail
  refine HCB.out.mono ?_
  rintro e w1 ⟨v, rfl, hS, hB⟩
  have hR := Kd.S_R hS
  obtain ⟨inner, hown⟩ := Kd.R_own hR
  obtain ⟨g, cap, hv⟩ := ownsRow_succ (k := 2) hown
  have hv : v = .slice (some ⟨g, 0, none⟩) 3 cap := hv
  subst hv
  obtain ⟨A, c, he, hc, hC⟩ := Kd.R_reads hR
  simp only [Value.slice.injEq] at he
  obtain ⟨rfl, hl3, rfl⟩ := he
  have HB1 := Aside0.mk hB
  have HC1 := Aside0.mk (show Kd.C k30 w1 (some ⟨g, 0, none⟩) 3 blo3 from hC)
  have HCC := Aside0.mk (show 3 ≤ cap from hc)
  clear hS hR hown hB hC hc inner hl3 hv
  go_wp2_with fail
  refine ((callsIn_wide (n := 1)).1 (beh_in 1 (some ⟨g, 0, none⟩) 3 cap _)).mono ?_
  rintro e w2 ⟨rfl, rfl⟩
  have HC2 := Aside0.mk (Kd.C_alloc HC1.out (.cells #[.slice (some ⟨g, 0, none⟩) 3 cap] 25))
  have HB2 := Aside0.mk (below_alloc (Below.refl _ w1) (.cells #[.slice (some ⟨g, 0, none⟩) 3 cap] 25))
  clear HC1
  obtain ⟨W2, hW2⟩ : ∃ W2, w1.alloc (.cells #[.slice (some ⟨g, 0, none⟩) 3 cap] 25) = W2 := ⟨_, rfl⟩
  rw [hW2] at HC2 HB2 ⊢
  clear hW2
  go_wp2_with fail
  have hcO := flow_Over.calls 60 (some ⟨g, 0, none⟩) cap blo3 [-1, 0, 0] W2 HC2.out HCC.out over3
  have HCO := Aside0.mk hcO
  clear hcO
  refine HCO.out.mono ?_
  rintro e w3 ⟨v5, rfl, hR, hB⟩
  obtain ⟨inner, hown⟩ := Kd.R_own hR
  obtain ⟨g5, cap5, hv⟩ := ownsRow_succ (k := 2) hown
  have hv : v5 = .slice (some ⟨g5, 0, none⟩) 3 cap5 := hv
  subst hv
  obtain ⟨A, c, he, hc, hC⟩ := Kd.R_reads hR
  simp only [Value.slice.injEq] at he
  obtain ⟨rfl, hl3, rfl⟩ := he
  have HB3 := Aside0.mk hB
  have HC5 := Aside0.mk (show Kd.C (Kd.int .i64) w3 (some ⟨g5, 0, none⟩) 3 [-1, 0, 0] from hC)
  have HC3 := Aside0.mk (Kd.C_below HC2.out hB)
  clear hR hown hB hC hc inner hl3 HC2 HCO
  go_wp2_with fail
  have hcR := flow_Reached.calls 60 (some ⟨g, 0, none⟩) cap blo3 [true, true, true] w3 HC3.out HCC.out reach3
  have HCR := Aside0.mk hcR
  clear hcR
  refine HCR.out.mono ?_
  rintro e w4 ⟨v6, rfl, hR, hB⟩
  obtain ⟨inner, hown⟩ := Kd.R_own hR
  obtain ⟨g6, cap6, hv⟩ := ownsRow_succ (k := 2) hown
  have hv : v6 = .slice (some ⟨g6, 0, none⟩) 3 cap6 := hv
  subst hv
  obtain ⟨A, c, he, hc, hC⟩ := Kd.R_reads hR
  simp only [Value.slice.injEq] at he
  obtain ⟨rfl, hl3, rfl⟩ := he
  have HB4 := Aside0.mk hB
  have HC4 := Aside0.mk (Kd.C_below HC3.out hB)
  obtain ⟨ad0, A2, c2, e0, _, _, a2, l2, hN⟩ := at_T30 HC4.out 0 (by decide) (by decide)
  obtain rfl := Option.some.inj e0
  obtain ⟨ad2, e2, b1⟩ := Kd.at_int hN 1 (by decide) (by decide)
  obtain ⟨ad5, e5, d0⟩ := Kd.at_int (Kd.C_below HC5.out hB) 0 (by decide) (by decide)
  obtain ⟨ad5', e5', d2⟩ := Kd.at_int (Kd.C_below HC5.out hB) 2 (by decide) (by decide)
  obtain ⟨ad6, e6, f2⟩ := Kd.at_bool hC 2 (by decide) (by decide)
  obtain rfl := Option.some.inj e5
  obtain rfl := Option.some.inj e5'
  obtain rfl := Option.some.inj e6
  subst e2
  have a2 : w4.cell? ⟨g, 2, none⟩ = some (.slice (some ad2) 2 c2) := a2
  have b1 : w4.cell? ⟨ad2.block, ad2.off + 1, none⟩ = some (.int .i64 2) := b1
  have d0 : w4.cell? ⟨g5, 0, none⟩ = some (.int .i64 (-1)) := d0
  have d2 : w4.cell? ⟨g5, 2, none⟩ = some (.int .i64 0) := d2
  have f2 : w4.cell? ⟨g6, 2, none⟩ = some (.bool true) := f2
  have hcQ := flow_Order.calls (some ⟨g, 0, none⟩) cap blo3 [0, 2, 1] w4 HC4.out HCC.out order3
  have HCQ := Aside0.mk hcQ
  clear hcQ hR hown hB hC hc inner hl3 HC3 HC5 HCR HC4 l2 hN e0 e5 e5' e6
  go_wp2_with fail
  refine HCQ.out.mono ?_
  rintro e w5 ⟨v7, rfl, hR, hB⟩
  obtain ⟨A7, c7, hv⟩ := Kd.R_slice hR
  have hv : v7 = .slice A7 3 c7 := hv
  subst hv
  have HB5 := Aside0.mk hB
  clear hR hB HCQ
  go_wp2_with fail
  refine (flow_Ends.calls 31 true _ ends31).mono ?_
  rintro e w6 ⟨rfl, ⟨m, rfl⟩⟩
  go_wp2_with fail
  go_ret
  exact ⟨rfl, pw_below_drewN (below_step (below_step (below_step (below_step (below_step (below_alloc (below_alloc (Below.refl _ w) _) _) HB1.out) HB2.out) HB3.out) HB4.out) HB5.out) m⟩

end Go.Proofs.Ytpfbfnbffglbkaa.P
