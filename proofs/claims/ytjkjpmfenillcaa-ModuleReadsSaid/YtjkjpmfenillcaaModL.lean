/- What must come of every program of chapter 06; no statement of the seat. -/
import Derived.Test.YtjkjpmfenillcaaModA
import Derived.Test.YtjkjpmfenillcaaPF12
set_option linter.unusedVariables false
set_option linter.unusedSimpArgs false
namespace Go.Proofs.Ytjkjpmfenillcaa.P
open Go.RowKit Go.Proofs.YtjkjpmfenillcaaW.PrintWords Go.Proofs.YtjkjpmfenillcaaW.PrintLast Go.Proofs.YtjkjpmfenillcaaW.PrintMore
def lvF : FnS := ⟨0, 0, [38]⟩
def lvB : List Int := [80, 78, 76, 49, 0, 0, 1, 0, 0, 0, 1, 0, 0, 0, 38]
theorem lv_enc : encM [] [lvF] = (lvB, 0) := by kernel_rfl
theorem lv_dec : decM lvB = ([], [lvF], 0) := by kernel_rfl
theorem lv_same : pianolaref06_Same.f 10 [] [lvF] [] [lvF] = some true := by kernel_rfl
theorem lv_code : instr_Decode.f [38] = some ([⟨38, 0⟩], 0, 1) := by kernel_rfl
theorem lv_all : allF 200 [38] 5000 0 = some [(0, ⟨38, 0⟩)] := by kernel_rfl
theorem lv_ok : okL lvB := ⟨by unfold okB lvB; decide, by decide⟩
set_option maxRecDepth 100000 in
theorem calls_run (A0 : Option Addr) (c0 n0 : Nat) (A1 : Option Addr) (c1 n1 : Nat) (w : World) :
    Calls Try.prog 26 #[.agg #[.slice A0 n0 c0, .slice A1 n1 c1]] w fun e w' => e = .returned (.func (.func 52) #[] #[.pointer (some ⟨w.heap.size, 0, none⟩)]) ∧ w' = w.alloc (.cells #[.slice A0 n0 c0, .slice A1 n1 c1] 27) := by
  go_enter Try.func26, Try.ntmps26
  go_wp2_with fail
  go_ret
  exact ⟨rfl, rfl⟩
theorem C_one8 {w : World} {g : Nat} {v : Int} (h : w.heap[g]? = some (.cells #[.int .u8 v] 5 (0, 0))) : Kd.C (Kd.int .u8) w (some ⟨g, 0, none⟩) [v].length [v] := by
  refine Kd.C_of_reads (d := (0 : Int)) (h1 := fun _ => rfl) ⟨rfl, (show (1 : Nat) ≤ 9223372036854775807 by decide), fun _ => ⟨⟨g, 0, none⟩, rfl, fun j hj => ?_⟩⟩
  have hc := cell_of_row w g j _ _ _ h
  match j, hj with
  | 0, _ => exact hc
theorem C_lvF {w : World} {g g1 : Nat} (h : w.heap[g]? = some (.cells #[.int .i64 0, .int .i64 0, .slice (some ⟨g1, 0, none⟩) 1 1] 41 (0, 0))) (h1 : w.heap[g1]? = some (.cells #[.int .u8 38] 5 (0, 0))) : Kd.C k41 w (some ⟨g, 0, none⟩) [lvF].length [lvF] := by
  refine ⟨rfl, by decide, fun _ => ⟨⟨g, 0, none⟩, rfl, fun j p hp => ?_⟩⟩
  obtain rfl : j = 0 := by
    cases j with
    | zero => rfl
    | succ j => simp at hp
  obtain rfl : lvF = p := Option.some.inj hp
  refine ⟨[.int .i64 0, .int .i64 0, .slice (some ⟨g1, 0, none⟩) 1 1], rfl, k41_mk w lvF (c2 := 1) (Nat.le_refl 1) (C_one8 h1), fun i u hu => ?_⟩
  have hc := cell_of_row w g i _ _ _ h
  match i, hu with
  | 0, hu => exact hc.trans hu
  | 1, hu => exact hc.trans hu
  | 2, hu => exact hc.trans hu
  | i + 3, hu => simp at hu
set_option maxRecDepth 100000 in
set_option maxHeartbeats 4000000 in
theorem lives_run (w : World) : Calls Try.prog 9 #[] w fun e w' => e = .returned (.bool true) ∧ Below w.heap.size w w' := by
  have hnil : ∀ (b : Nat) (W : World), (binOp .neq 59 (.func (.func 52) #[] #[.pointer (some ⟨b, 0, none⟩)]) .nilFunc).run Try.prog W = .ok (.bool true) W := fun _ _ => by kernel_rfl
  go_enter Try.func9, Try.ntmps9
  go_upto_region 2 with (fail)
  obtain ⟨W3, hW3⟩ : ∃ W3, ((w.alloc (.cells #[.int .u8 38] 5)).alloc (.cells #[.int .i64 0, .int .i64 0, .slice (some ⟨w.heap.size, 0, none⟩) 1 1] 41)).alloc (.cells #[.slice none 0 0, .slice (some ⟨w.heap.size + 1, 0, none⟩) 1 1] 27) = W3 := ⟨_, rfl⟩
  have hb3 : Below w.heap.size w W3 := by rw [← hW3]; exact below_alloc (below_alloc (below_alloc (Below.refl _ _) _) _) _
  have g1 : W3.heap[w.heap.size]? = some (.cells #[.int .u8 38] 5 (0, 0)) := by rw [← hW3]; exact blk_alloc (blk_alloc (blk_new w _) _) _
  have g2 : W3.heap[w.heap.size + 1]? = some (.cells #[.int .i64 0, .int .i64 0, .slice (some ⟨w.heap.size, 0, none⟩) 1 1] 41 (0, 0)) := by
    rw [← hW3]
    have h := blk_alloc (blk_new (w.alloc (.cells #[.int .u8 38] 5)) (.cells #[.int .i64 0, .int .i64 0, .slice (some ⟨w.heap.size, 0, none⟩) 1 1] 41)) (.cells #[.slice none 0 0, .slice (some ⟨w.heap.size + 1, 0, none⟩) 1 1] 27)
    rw [World.size_alloc] at h
    exact h
  have g3 : W3.heap[w.heap.size + 1 + 1]? = some (.cells #[.slice none 0 0, .slice (some ⟨w.heap.size + 1, 0, none⟩) 1 1] 27 (0, 0)) := by
    rw [← hW3]
    have h := blk_new ((w.alloc (.cells #[.int .u8 38] 5)).alloc (.cells #[.int .i64 0, .int .i64 0, .slice (some ⟨w.heap.size, 0, none⟩) 1 1] 41)) (.cells #[.slice none 0 0, .slice (some ⟨w.heap.size + 1, 0, none⟩) 1 1] 27)
    rw [World.size_alloc, World.size_alloc] at h
    exact h
  rw [hW3]
  clear hW3
  have HF := Aside0.mk (C_lvF g2 g1)
  have HM3 := Aside0.mk g3
  have HB3 := Aside0.mk hb3
  have m0 := blk_cell g3 0
  have m1 := blk_cell g3 1
  clear g1 g2 hb3
  have henc := menc_run none 0 [] (some ⟨w.heap.size + 1, 0, none⟩) 1 [lvF] W3 (Kd.C_nil _ _) (Nat.le_refl _) HF.out (Nat.le_refl _)
  rw [lv_enc] at henc
  have HENC := Aside0.mk henc
  clear henc g3
  go_wp2_with fail
  refine HENC.out.mono ?_
  rintro r w4 ⟨A', c', rfl, hC4, hl4, hb4⟩
  have hdec := mdec_run A' c' lvB w4 hC4 hl4 lv_ok
  rw [lv_dec] at hdec
  have HDEC := Aside0.mk hdec
  have HB4 := Aside0.mk hb4
  have HM4 := Aside0.mk (blk_below HM3.out hb4)
  clear hdec hb4 hC4 hl4 m0 m1
  go_wp2_with fail
  refine HDEC.out.mono ?_
  rintro r w5 ⟨D0, e0, D1, e1, rfl, ⟨hCa, hla⟩, ⟨hCb, hlb⟩, hb5⟩
  have hm5 := blk_below HM4.out hb5
  have HC5 := Aside0.mk (And.intro hCa (And.intro hla (And.intro hCb hlb)))
  have HB5 := Aside0.mk (below_step HB4.out hb5)
  have m0 : ∀ o, (w5.alloc o).cell? ⟨w.heap.size + 1 + 1, 0, none⟩ = some (.slice none 0 0) := fun o => blk_cell (blk_alloc hm5 o) 0
  have m1 : ∀ o, (w5.alloc o).cell? ⟨w.heap.size + 1 + 1, 1, none⟩ = some (.slice (some ⟨w.heap.size + 1, 0, none⟩) 1 1) := fun o => blk_cell (blk_alloc hm5 o) 1
  have HM5 := Aside0.mk hm5
  clear hCa hla hCb hlb hb5 hm5
  go_wp2_with fail
  obtain ⟨W6, hW6⟩ : ∃ W6, w5.alloc (.cells #[.slice D0 0 e0, .slice D1 1 e1] 27) = W6 := ⟨_, rfl⟩
  have hb6 : Below w5.heap.size w5 W6 := by rw [← hW6]; exact below_alloc (Below.refl _ _) _
  have hx6 : W6.heap[w5.heap.size]? = some (.cells #[.slice D0 0 e0, .slice D1 1 e1] 27 (0, 0)) := by rw [← hW6]; exact blk_new w5 _
  have HCO := Aside0.mk (mcode_ok none 0 [] (some ⟨w.heap.size + 1, 0, none⟩) 1 [lvF] 0 (by decide) lvF rfl [⟨38, 0⟩] 1 [(0, ⟨38, 0⟩)] W6 (Kd.C_below HF.out (below_step HB5.out hb6)) lv_code lv_all (by decide))
  rw [hW6]
  have HM6 := Aside0.mk (blk_below HM5.out hb6)
  have HX6 := Aside0.mk hx6
  have HB6 := Aside0.mk (below_step HB5.out hb6)
  have HB56 := Aside0.mk hb6
  clear hW6 hb6 hx6 m0 m1
  refine HCO.out.mono ?_
  rintro r w7 ⟨v0, v1, rfl, hR0, hR1, hb7⟩
  obtain ⟨Av, cv, rfl⟩ := Kd.R_slice hR0
  obtain ⟨Ap, cp, rfl⟩ := Kd.R_slice hR1
  obtain ⟨ad, hA, l0, l1⟩ := at_T47 (Kd.R_reads' hR0).2.2 0 (by decide) (by decide)
  subst hA
  have l0 : w7.cell? (ad.add 0) = some (.int .i64 38) := l0
  rw [show ad.add 0 = ad by cases ad; rfl] at l0
  have hm7 := blk_below HM6.out hb7
  have hx7 := blk_below HX6.out hb7
  have p70 := blk_cell hm7 0
  have p71 := blk_cell hm7 1
  have q70 := blk_cell hx7 0
  have q71 := blk_cell hx7 1
  have HM7 := Aside0.mk hm7
  have HX7 := Aside0.mk hx7
  have HB7 := Aside0.mk (below_step HB6.out hb7)
  have hlm7 := blk_lt hm7
  have hlx7 := blk_lt hx7
  clear hm7 hx7
  have HB67 := Aside0.mk hb7
  have HCX := Aside0.mk (And.intro (Kd.C_below (Kd.C_below HC5.out.1 HB56.out) hb7) (Kd.C_below (Kd.C_below HC5.out.2.2.1 HB56.out) hb7))
  have HCM := Aside0.mk (Kd.C_below HF.out HB7.out)
  have L0 := Aside0.mk l0
  clear hR0 hR1 hb7 l1
  simp only [List.length_singleton]
  go_wp2_with (first
    | (go_at_call 12; go_loud (refine (pianolaref06_Same.calls 10 D0 e0 [] D1 e1 [lvF] none 0 [] (some ⟨w.heap.size + 1, 0, none⟩) 1 [lvF] true _ HCX.out.1 HC5.out.2.1 HCX.out.2 HC5.out.2.2.2 (Kd.C_nil _ _) (Nat.le_refl _) HCM.out (Nat.le_refl _) lv_same).mono ?_; rintro e w8 ⟨rfl, hb8⟩; have hm8 := blk_below HM7.out hb8; have hx8 := blk_below HX7.out hb8; have p80 := blk_cell hm8 0; have p81 := blk_cell hm8 1; have q80 := blk_cell hx8 0; have q81 := blk_cell hx8 1; have HM8 := Aside0.mk hm8; have HX8 := Aside0.mk hx8; have HB8 := Aside0.mk (below_step HB7.out hb8); have hlm8 := blk_lt hm8; have hlx8 := blk_lt hx8; clear hm8 hx8; have l8 := pw_cell_below hb8 L0.out; have HB78 := Aside0.mk hb8; clear hb8))
    | (go_at_call 14; go_loud (refine (msame_run D0 e0 [] D1 e1 [lvF] none 0 [] (some ⟨w.heap.size + 1, 0, none⟩) 1 [lvF] _ (Kd.C_below HCX.out.1 HB78.out) HC5.out.2.1 (Kd.C_below HCX.out.2 HB78.out) (Kd.C_nil _ _) (Nat.le_refl _) (Kd.C_below HCM.out HB78.out) (by decide)).mono ?_; rintro e w9 ⟨rfl, hb9⟩; have hm9 := blk_below HM8.out hb9; have hx9 := blk_below HX8.out hb9; have p90 := blk_cell hm9 0; have p91 := blk_cell hm9 1; have q90 := blk_cell hx9 0; have q91 := blk_cell hx9 1; have HM9 := Aside0.mk hm9; have HX9 := Aside0.mk hx9; have HB9 := Aside0.mk (below_step HB8.out hb9); have hlm9 := blk_lt hm9; have hlx9 := blk_lt hx9; clear hm9 hx9; have l9 := pw_cell_below hb9 l8; rw [show ((([] : List Int) == []) && eqFs [lvF] [lvF]) = true by kernel_rfl]; clear hb9))
    | (go_at_call 26; go_loud (refine (calls_run none 0 0 (some ⟨w.heap.size + 1, 0, none⟩) 1 1 _).mono ?_; rintro e w10 ⟨rfl, rfl⟩))
    | (go_at_call 21; go_loud (refine (may_run none 0 [] none 0 [] _ (Kd.C_nil _ _) (Kd.C_nil _ _)).mono ?_; rintro e w11 ⟨rfl, hb11⟩; have HB11 := Aside0.mk hb11; rw [show (if mayM [] [] = true then (0 : Int) else 60) = 60 by kernel_rfl]; clear hb11)))
  go_ret
  exact ⟨rfl, below_step (below_step (below_step HB3.out HB9.out) (below_alloc (Below.refl _ _) _)) HB11.out⟩
end Go.Proofs.Ytjkjpmfenillcaa.P
