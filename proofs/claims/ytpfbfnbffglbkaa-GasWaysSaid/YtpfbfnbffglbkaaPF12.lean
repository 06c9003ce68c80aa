/- Ytpfbfnbffglbkaa: what Go functions come to, and that they do: walks, printed by a program of this session or typed by hand; no statement of the seat stands here. -/
import Derived.Test.YtpfbfnbffglbkaaP0
import Derived.Test.YtpfbfnbffglbkaaPF19
import Derived.Test.YtpfbfnbffglbkaaPF31
import Derived.Test.YtpfbfnbffglbkaaPF25
namespace Go.Proofs.Ytpfbfnbffglbkaa.P
open Go.RowKit Go.Proofs.YtpfbfnbffglbkaaW.PrintWords Go.Proofs.YtpfbfnbffglbkaaW.PrintLast Go.Proofs.YtpfbfnbffglbkaaW.PrintMore
attribute [local go_sem] max2_int min2_int max_two min_two max_three min_three max_four min_four   -- for this text's walks alone
set_option linter.unusedVariables false
set_option linter.unusedSimpArgs false

/-! ### pianolalaw10_GasWays: function 12 -/
mutual
def pianolalaw10_GasWays.j0 : Nat → List (S30) → List Int → List Int → Int → Bool → Option (Bool)
  | 0, _, _, _, _, _ => none
  | k + 1, x0, x1, x2, x7, x34 => if x34 = true then ((pianolalaw10_lives.f k).bind fun t498 => (some t498)) else (pianolalaw10_GasWays.l0 k x0 x1 x2 x7 0 0 0)
def pianolalaw10_GasWays.l0 : Nat → List (S30) → List Int → List Int → Int → Int → Int → Int → Option (Bool)
  | 0, _, _, _, _, _, _, _ => none
  | k + 1, x0, x1, x2, x7, x9, x10, x11 => if x11 ≤ (x0.length : Int) then (if 0 ≤ x9 then (if x9 < (x1.length : Int) then (if (wrap64 (x10 + (rd x1 x9))) > x7 then (some false) else (pianolalaw10_GasWays.l1 k x0 x1 x2 x7 x9 (wrap64 (x10 + (rd x1 x9))) x11 ([] : List Int) 0)) else (none)) else (none)) else ((pianolaref08_Walk.f x0 (-1)).bind fun bt499 => (some ((bt499.1.length : Int) == 0)))
def pianolalaw10_GasWays.l1 : Nat → List (S30) → List Int → List Int → Int → Int → Int → Int → List Int → Int → Option (Bool)
  | 0, _, _, _, _, _, _, _, _, _ => none
  | k + 1, x0, x1, x2, x7, x9, x10, x11, x12, x13 => if 0 ≤ x9 then (if x9 < (x0.length : Int) then (if x13 < (((rd_T30 x0 x9).f2).length : Int) then (if 0 ≤ x13 then (if (rd ((rd_T30 x0 x9).f2) x13) ≥ 0 then (if (rd ((rd_T30 x0 x9).f2) x13) < (x0.length : Int) then (if x12.length < 17592186044416 then (pianolalaw10_GasWays.l1 k x0 x1 x2 x7 x9 x10 x11 (x12 ++ [rd ((rd_T30 x0 x9).f2) x13]) (wrap64 (x13 + 1))) else (none)) else (pianolalaw10_GasWays.l1 k x0 x1 x2 x7 x9 x10 x11 x12 (wrap64 (x13 + 1)))) else (pianolalaw10_GasWays.l1 k x0 x1 x2 x7 x9 x10 x11 x12 (wrap64 (x13 + 1)))) else (none)) else (if (x12.length : Int) = 0 then (some true) else (if x11 < (x2.length : Int) then (if 0 ≤ x11 then (if (Int.tmod (rd x2 x11) (x12.length : Int)) < 0 then (if 0 ≤ (wrap64 (-(Int.tmod (rd x2 x11) (x12.length : Int)))) then (if (wrap64 (-(Int.tmod (rd x2 x11) (x12.length : Int)))) < (x12.length : Int) then (pianolalaw10_GasWays.l0 k x0 x1 x2 x7 (rd x12 (wrap64 (-(Int.tmod (rd x2 x11) (x12.length : Int))))) x10 (wrap64 (x11 + 1))) else (none)) else (none)) else (if 0 ≤ (Int.tmod (rd x2 x11) (x12.length : Int)) then (if (Int.tmod (rd x2 x11) (x12.length : Int)) < (x12.length : Int) then (pianolalaw10_GasWays.l0 k x0 x1 x2 x7 (rd x12 (Int.tmod (rd x2 x11) (x12.length : Int))) x10 (wrap64 (x11 + 1))) else (none)) else (none))) else (none)) else (if 0 < (x12.length : Int) then (pianolalaw10_GasWays.l0 k x0 x1 x2 x7 (rd x12 0) x10 (wrap64 (x11 + 1))) else (none))))) else (none)) else (none)
end
def pianolalaw10_GasWays.f (k : Nat) (l0 : List (S30)) (l1 : List Int) (l2 : List Int) : Option (Bool) := (gas_Longest.f k l0 l1).bind fun bt495 => ((pianolalaw10_lives.f k).bind fun t497 => (if t497 = true then (if bt495.2 = true then (pianolalaw10_GasWays.j0 k l0 l1 l2 bt495.1 (decide ((l0.length : Int) > 40))) else (pianolalaw10_GasWays.j0 k l0 l1 l2 bt495.1 true)) else (pianolalaw10_GasWays.j0 k l0 l1 l2 bt495.1 true)))
theorem pianolalaw10_GasWays.mono_l : ∀ k, (∀ y0 y1 y2 y3 y4, LeO (pianolalaw10_GasWays.j0 k y0 y1 y2 y3 y4) (pianolalaw10_GasWays.j0 (k + 1) y0 y1 y2 y3 y4)) ∧ (∀ y0 y1 y2 y3 y4 y5 y6, LeO (pianolalaw10_GasWays.l0 k y0 y1 y2 y3 y4 y5 y6) (pianolalaw10_GasWays.l0 (k + 1) y0 y1 y2 y3 y4 y5 y6)) ∧ (∀ y0 y1 y2 y3 y4 y5 y6 y7 y8, LeO (pianolalaw10_GasWays.l1 k y0 y1 y2 y3 y4 y5 y6 y7 y8) (pianolalaw10_GasWays.l1 (k + 1) y0 y1 y2 y3 y4 y5 y6 y7 y8))
  | 0 => ⟨fun _ _ _ _ _ r h => by simp [pianolalaw10_GasWays.j0] at h, fun _ _ _ _ _ _ _ r h => by simp [pianolalaw10_GasWays.l0] at h, fun _ _ _ _ _ _ _ _ _ r h => by simp [pianolalaw10_GasWays.l1] at h⟩
  | k + 1 => by
    obtain ⟨ih0, ih1, ih2⟩ := pianolalaw10_GasWays.mono_l k
    refine ⟨?_, ?_, ?_⟩
    · intro y0 y1 y2 y3 y4
      unfold pianolalaw10_GasWays.j0
      repeat' first
      | (with_reducible exact ih0 _ _ _ _ _)
      | (with_reducible exact ih1 _ _ _ _ _ _ _)
      | (with_reducible exact ih2 _ _ _ _ _ _ _ _ _)
      | (with_reducible exact gas_Longest.mono _ _ _)
      | (with_reducible exact pianolalaw10_lives.mono _)
      | (with_reducible exact LeO.refl _)
      | (with_reducible exact LeO.none _)
      | (with_reducible refine LeO.ite ?_ ?_)
      | (with_reducible refine LeO.bind ?_ (fun _ => ?_))
      | exact ih0 _ _ _ _ _
      | exact ih1 _ _ _ _ _ _ _
      | exact ih2 _ _ _ _ _ _ _ _ _
      | exact gas_Longest.mono _ _ _
      | exact pianolalaw10_lives.mono _
      | exact LeO.none _
      | refine LeO.ite ?_ ?_
      | refine LeO.bind ?_ (fun _ => ?_)
    · intro y0 y1 y2 y3 y4 y5 y6
      unfold pianolalaw10_GasWays.l0
      repeat' first
      | (with_reducible exact ih0 _ _ _ _ _)
      | (with_reducible exact ih1 _ _ _ _ _ _ _)
      | (with_reducible exact ih2 _ _ _ _ _ _ _ _ _)
      | (with_reducible exact gas_Longest.mono _ _ _)
      | (with_reducible exact pianolalaw10_lives.mono _)
      | (with_reducible exact LeO.refl _)
      | (with_reducible exact LeO.none _)
      | (with_reducible refine LeO.ite ?_ ?_)
      | (with_reducible refine LeO.bind ?_ (fun _ => ?_))
      | exact ih0 _ _ _ _ _
      | exact ih1 _ _ _ _ _ _ _
      | exact ih2 _ _ _ _ _ _ _ _ _
      | exact gas_Longest.mono _ _ _
      | exact pianolalaw10_lives.mono _
      | exact LeO.none _
      | refine LeO.ite ?_ ?_
      | refine LeO.bind ?_ (fun _ => ?_)
    · intro y0 y1 y2 y3 y4 y5 y6 y7 y8
      unfold pianolalaw10_GasWays.l1
      repeat' first
      | (with_reducible exact ih0 _ _ _ _ _)
      | (with_reducible exact ih1 _ _ _ _ _ _ _)
      | (with_reducible exact ih2 _ _ _ _ _ _ _ _ _)
      | (with_reducible exact gas_Longest.mono _ _ _)
      | (with_reducible exact pianolalaw10_lives.mono _)
      | (with_reducible exact LeO.refl _)
      | (with_reducible exact LeO.none _)
      | (with_reducible refine LeO.ite ?_ ?_)
      | (with_reducible refine LeO.bind ?_ (fun _ => ?_))
      | exact ih0 _ _ _ _ _
      | exact ih1 _ _ _ _ _ _ _
      | exact ih2 _ _ _ _ _ _ _ _ _
      | exact gas_Longest.mono _ _ _
      | exact pianolalaw10_lives.mono _
      | exact LeO.none _
      | refine LeO.ite ?_ ?_
      | refine LeO.bind ?_ (fun _ => ?_)
theorem pianolalaw10_GasWays.mono : ∀ a0 a1 a2 k, LeO (pianolalaw10_GasWays.f k a0 a1 a2) (pianolalaw10_GasWays.f (k + 1) a0 a1 a2) := by
  intro a0 a1 a2 k
  obtain ⟨ih0, ih1, ih2⟩ := pianolalaw10_GasWays.mono_l k
  unfold pianolalaw10_GasWays.f
  repeat' first
      | (with_reducible exact ih0 _ _ _ _ _)
      | (with_reducible exact ih1 _ _ _ _ _ _ _)
      | (with_reducible exact ih2 _ _ _ _ _ _ _ _ _)
      | (with_reducible exact gas_Longest.mono _ _ _)
      | (with_reducible exact pianolalaw10_lives.mono _)
      | (with_reducible exact LeO.refl _)
      | (with_reducible exact LeO.none _)
      | (with_reducible refine LeO.ite ?_ ?_)
      | (with_reducible refine LeO.bind ?_ (fun _ => ?_))
      | exact ih0 _ _ _ _ _
      | exact ih1 _ _ _ _ _ _ _
      | exact ih2 _ _ _ _ _ _ _ _ _
      | exact gas_Longest.mono _ _ _
      | exact pianolalaw10_lives.mono _
      | exact LeO.none _
      | refine LeO.ite ?_ ?_
      | refine LeO.bind ?_ (fun _ => ?_)
set_option maxHeartbeats 8000000 in
set_option maxRecDepth 100000 in
theorem pianolalaw10_GasWays.calls (k : Nat) (A0 : Option Addr) (c0 : Nat) (l0 : List (S30)) (A1 : Option Addr) (c1 : Nat) (l1 : List Int) (A2 : Option Addr) (c2 : Nat) (l2 : List Int) (r : Bool) (w : World) (hr0 : Kd.C k30 w A0 l0.length l0) (hc0 : l0.length ≤ c0) (hr1 : Kd.C (Kd.int .i64) w A1 l1.length l1) (hc1 : l1.length ≤ c1) (hr2 : Kd.C (Kd.int .i64) w A2 l2.length l2) (hc2 : l2.length ≤ c2) (h : pianolalaw10_GasWays.f k l0 l1 l2 = some r) :
    Calls Try.prog 12 #[.slice A0 l0.length c0, .slice A1 l1.length c1, .slice A2 l2.length c2] w fun e w' => e = .returned (.bool r) ∧ Below w.heap.size w w' := by
  have HR0 := Aside0.mk hr0
  have HC0 := Aside0.mk hc0
  clear hr0 hc0
  have HR1 := Aside0.mk hr1
  have HC1 := Aside0.mk hc1
  clear hr1 hc1
  have HR2 := Aside0.mk hr2
  have HC2 := Aside0.mk hc2
  clear hr2 hc2
  have HB := Aside0.mk (Below.refl w.heap.size w)
  have H : ((gas_Longest.f k l0 l1).bind fun bt495 => ((pianolalaw10_lives.f k).bind fun t497 => (if t497 = true then (if bt495.2 = true then (pianolalaw10_GasWays.j0 k l0 l1 l2 bt495.1 (decide ((l0.length : Int) > 40))) else (pianolalaw10_GasWays.j0 k l0 l1 l2 bt495.1 true)) else (pianolalaw10_GasWays.j0 k l0 l1 l2 bt495.1 true)))) = some r := h
  clear h
  replace H := Option.bind_eq_some_iff.mp H
  obtain ⟨⟨t495, t496⟩, A40, H⟩ := H
  replace H : ((pianolalaw10_lives.f k).bind fun t497 => (if t497 = true then (if t496 = true then (pianolalaw10_GasWays.j0 k l0 l1 l2 t495 (decide ((l0.length : Int) > 40))) else (pianolalaw10_GasWays.j0 k l0 l1 l2 t495 true)) else (pianolalaw10_GasWays.j0 k l0 l1 l2 t495 true))) = some r := H
  have A4 := Aside0.mk A40
  clear A40
  have HC5 := Aside0.mk H
  clear H
  go_enter Try.func12, Try.ntmps12
  go_upto_region 2 with (first | ((with_reducible refine gate_callee (f := 31) rfl ?_); refine goesL_ (some 21) rfl rfl Try.func31 (by kernel_rfl) rfl #[.slice A0 l0.length c0, .slice A1 l1.length c1] rfl (by (try simp only [List.map_toArray, List.map_cons, List.map_nil]); first | done | rfl | (simp only [List.length_drop, List.length_take]; rfl)) ?_; (with_reducible refine (gas_Longest.calls k _ _ l0 _ _ l1 t495 t496 _ ?side1 ?side2 ?side3 ?side4 A4.out).mono ?_); (case side1 => repeat (first | exact HR0.out | (with_reducible refine Kd.C_alloc ?_ _) | (with_reducible refine Kd.C_drewN ?_ _) | (with_reducible refine Kd.C_drew ?_))); (case side2 => exact HC0.out); (case side3 => repeat (first | exact HR1.out | (with_reducible refine Kd.C_alloc ?_ _) | (with_reducible refine Kd.C_drewN ?_ _) | (with_reducible refine Kd.C_drew ?_))); (case side4 => exact HC1.out); rintro e w6 ⟨rfl, hb⟩; refine ⟨_, rfl, ?_⟩; have n0_ := Aside0.mk (below_step (by repeat (first | (with_reducible first | exact HB.out | apply below_alloc | apply pw_below_drewN | apply below_drew1) | exact HB.out)) hb); clear HB; have HB := n0_; clear n0_; (try clear hb); (try clear hb2); (try clear hk); (try clear hi)))
  (try simp only [Act.put, List.setIfInBounds_toArray, List.set_cons_zero, List.set_cons_succ])
  go_cut [34] (fun v34 wc => ∃ (kq : Nat) (x34_4 : Bool), v34 = .bool x34_4 ∧ Aside0 (pianolalaw10_GasWays.j0 kq l0 l1 l2 t495 x34_4 = some r) ∧ Aside0 (kq ≤ k) ∧ Aside0 (Below w.heap.size w wc))
  case first =>
    have H := HC5.out
    clear HC5
    replace H := Option.bind_eq_some_iff.mp H
    obtain ⟨t497, A70, H⟩ := H
    replace H : (if t497 = true then (if t496 = true then (pianolalaw10_GasWays.j0 k l0 l1 l2 t495 (decide ((l0.length : Int) > 40))) else (pianolalaw10_GasWays.j0 k l0 l1 l2 t495 true)) else (pianolalaw10_GasWays.j0 k l0 l1 l2 t495 true)) = some r := H
    have A7 := Aside0.mk A70
    clear A70
    by_cases c8 : t497 = true
    · subst c8
      have H1 : (if t496 = true then (pianolalaw10_GasWays.j0 k l0 l1 l2 t495 (decide ((l0.length : Int) > 40))) else (pianolalaw10_GasWays.j0 k l0 l1 l2 t495 true)) = some r := by rw [if_pos rfl] at H; exact H
      clear H
      have H := H1
      clear H1
      by_cases c9 : t496 = true
      · subst c9
        have H1 : (pianolalaw10_GasWays.j0 k l0 l1 l2 t495 (decide ((l0.length : Int) > 40))) = some r := by rw [if_pos rfl] at H; exact H
        clear H
        have H := H1
        clear H1
        have H' := Aside0.mk H
        clear H
        go_wp2_with (first | ((with_reducible refine gate_callee (f := 25) rfl ?_); refine goesL_ (some 24) rfl rfl Try.func25 (by kernel_rfl) rfl #[] rfl (by (try simp only [List.map_toArray, List.map_cons, List.map_nil]); first | done | rfl | (simp only [List.length_drop, List.length_take]; rfl)) ?_; (with_reducible refine (pianolalaw10_lives.calls k  true _ A7.out).mono ?_); rintro e w10 ⟨rfl, hb⟩; refine ⟨_, rfl, ?_⟩; have n0_ := Aside0.mk (below_step (by repeat (first | (with_reducible first | exact HB.out | apply below_alloc | apply pw_below_drewN | apply below_drew1) | exact HB.out)) hb); clear HB; have HB := n0_; clear n0_; (try clear hb); (try clear hb2); (try clear hk); (try clear hi)))
        go_meet
        case rel => exact ⟨_, (decide ((l0.length : Int) > 40)), (by first | rfl | (simp; done) | (simp [*]; done)), H', ⟨by first | omega | exact Nat.le_refl _⟩, ⟨by repeat (first | (with_reducible first | exact HB.out | apply below_alloc | apply pw_below_drewN | apply below_drew1) | exact HB.out)⟩⟩
      · replace c9 := Bool.eq_false_iff.mpr c9
        subst c9
        have H1 : (pianolalaw10_GasWays.j0 k l0 l1 l2 t495 true) = some r := by rw [if_neg (show ¬ (false = true) by decide)] at H; exact H
        clear H
        have H := H1
        clear H1
        have H' := Aside0.mk H
        clear H
        go_wp2_with (first | ((with_reducible refine gate_callee (f := 25) rfl ?_); refine goesL_ (some 24) rfl rfl Try.func25 (by kernel_rfl) rfl #[] rfl (by (try simp only [List.map_toArray, List.map_cons, List.map_nil]); first | done | rfl | (simp only [List.length_drop, List.length_take]; rfl)) ?_; (with_reducible refine (pianolalaw10_lives.calls k  true _ A7.out).mono ?_); rintro e w11 ⟨rfl, hb⟩; refine ⟨_, rfl, ?_⟩; have n0_ := Aside0.mk (below_step (by repeat (first | (with_reducible first | exact HB.out | apply below_alloc | apply pw_below_drewN | apply below_drew1) | exact HB.out)) hb); clear HB; have HB := n0_; clear n0_; (try clear hb); (try clear hb2); (try clear hk); (try clear hi)))
        go_meet
        case rel => exact ⟨_, (true), (by first | rfl | (simp; done) | (simp [*]; done)), H', ⟨by first | omega | exact Nat.le_refl _⟩, ⟨by repeat (first | (with_reducible first | exact HB.out | apply below_alloc | apply pw_below_drewN | apply below_drew1) | exact HB.out)⟩⟩
    · replace c8 := Bool.eq_false_iff.mpr c8
      subst c8
      have H1 : (pianolalaw10_GasWays.j0 k l0 l1 l2 t495 true) = some r := by rw [if_neg (show ¬ (false = true) by decide)] at H; exact H
      clear H
      have H := H1
      clear H1
      have H' := Aside0.mk H
      clear H
      go_wp2_with (first | ((with_reducible refine gate_callee (f := 25) rfl ?_); refine goesL_ (some 24) rfl rfl Try.func25 (by kernel_rfl) rfl #[] rfl (by (try simp only [List.map_toArray, List.map_cons, List.map_nil]); first | done | rfl | (simp only [List.length_drop, List.length_take]; rfl)) ?_; (with_reducible refine (pianolalaw10_lives.calls k  false _ A7.out).mono ?_); rintro e w12 ⟨rfl, hb⟩; refine ⟨_, rfl, ?_⟩; have n0_ := Aside0.mk (below_step (by repeat (first | (with_reducible first | exact HB.out | apply below_alloc | apply pw_below_drewN | apply below_drew1) | exact HB.out)) hb); clear HB; have HB := n0_; clear n0_; (try clear hb); (try clear hb2); (try clear hk); (try clear hi)))
      go_meet
      case rel => exact ⟨_, (true), (by first | rfl | (simp; done) | (simp [*]; done)), H', ⟨by first | omega | exact Nat.le_refl _⟩, ⟨by repeat (first | (with_reducible first | exact HB.out | apply below_alloc | apply pw_below_drewN | apply below_drew1) | exact HB.out)⟩⟩
  case rest =>
    clear HC5
    try clear c1
    try clear c2
    try clear p2
    try clear c3
    try clear c8
    try clear c9
    try clear c12
    obtain ⟨kq, x34_4, rfl, HA, HJ4, HB⟩ := hcut
    cases kq with
    | zero => exact absurd HA.out (by simp [pianolalaw10_GasWays.j0])
    | succ kj4 =>
      have H := HA.out
      clear HA
      simp only [pianolalaw10_GasWays.j0] at H
      by_cases c13 : x34_4 = true
      · subst c13
        have H1 : ((pianolalaw10_lives.f kj4).bind fun t498 => (some t498)) = some r := by rw [if_pos rfl] at H; exact H
        clear H
        have H := H1
        clear H1
        replace H := Option.bind_eq_some_iff.mp H
        obtain ⟨t498, A140, H⟩ := H
        replace H : (some t498) = some r := H
        have A14 := Aside0.mk A140
        clear A140
        obtain rfl := Option.some.inj H
        go_wp2_with (first | ((with_reducible refine gate_callee (f := 25) rfl ?_); refine goesL_ (some 35) rfl rfl Try.func25 (by kernel_rfl) rfl #[] rfl (by (try simp only [List.map_toArray, List.map_cons, List.map_nil]); first | done | rfl | (simp only [List.length_drop, List.length_take]; rfl)) ?_; (with_reducible refine (pianolalaw10_lives.calls kj4  t498 _ A14.out).mono ?_); rintro e w15 ⟨rfl, hb⟩; refine ⟨_, rfl, ?_⟩; have n0_ := Aside0.mk (below_step (by repeat (first | (with_reducible first | exact HB.out | apply below_alloc | apply pw_below_drewN | apply below_drew1) | exact HB.out)) hb); clear HB; have HB := n0_; clear n0_; (try clear hb); (try clear hb2); (try clear hk); (try clear hi)))
        go_ret
        exact ⟨by first | rfl | (simp [errW_none, errW_some] <;> rfl) | (simp [*, errW_none, errW_some] <;> rfl), by repeat (first | (with_reducible first | exact HB.out | apply below_alloc | apply pw_below_drewN | apply below_drew1) | exact HB.out)⟩
      · replace c13 := Bool.eq_false_iff.mpr c13
        subst c13
        have H1 : (pianolalaw10_GasWays.l0 kj4 l0 l1 l2 t495 0 0 0) = some r := by rw [if_neg (show ¬ (false = true) by decide)] at H; exact H
        clear H
        have H := H1
        clear H1
        have H' := Aside0.mk H
        clear H
        go_wp2
        go_loopg [9, 10, 11] kj4 (fun kq v9 v10 v11 w' => ∃ (x9_2 : Int) (x10_2 : Int) (x11_2 : Int), v9 = .int .i64 x9_2 ∧ v10 = .int .i64 x10_2 ∧ v11 = .int .i64 x11_2 ∧ Aside0 (pianolalaw10_GasWays.l0 kq l0 l1 l2 t495 x9_2 x10_2 x11_2 = some r) ∧ Aside0 (kq ≤ kj4) ∧ Aside0 (Below w.heap.size w w'))
        case atStart => exact ⟨(0), (0), (0), (by first | rfl | (simp; done) | (simp [*]; done)), (by first | rfl | (simp; done) | (simp [*]; done)), (by first | rfl | (simp; done) | (simp [*]; done)), H', ⟨Nat.le_refl _⟩, ⟨by repeat (first | (with_reducible first | exact HB.out | apply below_alloc | apply pw_below_drewN | apply below_drew1) | exact HB.out)⟩⟩
        case round =>
          clear H'
          try clear c1
          try clear c2
          try clear p2
          try clear c3
          try clear c8
          try clear c9
          try clear c12
          try clear c13
          try clear p2
          obtain ⟨x9_2, x10_2, x11_2, rfl, rfl, rfl, HA, HK2, HB⟩ := hrel
          cases gk with
          | zero => exact absurd HA.out (by simp [pianolalaw10_GasWays.l0])
          | succ k2 =>
            have H := HA.out
            clear HA
            simp only [pianolalaw10_GasWays.l0] at H
            by_cases c16 : x11_2 ≤ (l0.length : Int)
            · rw [if_pos c16] at H
              have c16b0 : decide (x11_2 ≤ (l0.length : Int)) = true := decide_eq_true c16
              clear c16
              by_cases c17 : 0 ≤ x9_2
              · rw [if_pos c17] at H
                have c17b0 : decide (0 ≤ x9_2) = true := decide_eq_true c17
                clear c17
                by_cases c18 : x9_2 < (l1.length : Int)
                · rw [if_pos c18] at H
                  have c18b0 : decide (x9_2 < (l1.length : Int)) = true := decide_eq_true c18
                  clear c18
                  by_cases c19 : (wrap64 (x10_2 + (rd l1 x9_2))) > t495
                  · rw [if_pos c19] at H
                    have c19b0 : decide (t495 < (wrap64 (x10_2 + (rd l1 x9_2)))) = true := decide_eq_true c19
                    clear c19
                    obtain rfl := Option.some.inj H
                    have p505 : 0 ≤ (x9_2 : Int) := of_decide_eq_true (by first | (with_reducible assumption) | assumption)
                    have q505 : x9_2 < (l1.length : Int) := of_decide_eq_true (by first | (with_reducible assumption) | assumption)
                    obtain ⟨ad505, e505, hx505_0⟩ := Kd.at_int HR1.out x9_2 p505 q505
                    cases e505
                    replace hx505_0 := (HB.out.cell (World.block_lt_of_cell? w _ hx505_0)).trans hx505_0
                    replace p505 := eq_true p505
                    replace q505 := eq_true q505
                    go_wp2
                    go_ret
                    exact ⟨by first | rfl | (simp [errW_none, errW_some] <;> rfl) | (simp [*, errW_none, errW_some] <;> rfl), by repeat (first | (with_reducible first | exact HB.out | apply below_alloc | apply pw_below_drewN | apply below_drew1) | exact HB.out)⟩
                  · rw [if_neg c19] at H
                    have c19b0 : decide (t495 < (wrap64 (x10_2 + (rd l1 x9_2)))) = false := decide_eq_false c19
                    clear c19
                    have H' := Aside0.mk H
                    clear H
                    have p505 : 0 ≤ (x9_2 : Int) := of_decide_eq_true (by first | (with_reducible assumption) | assumption)
                    have q505 : x9_2 < (l1.length : Int) := of_decide_eq_true (by first | (with_reducible assumption) | assumption)
                    obtain ⟨ad505, e505, hx505_0⟩ := Kd.at_int HR1.out x9_2 p505 q505
                    cases e505
                    replace hx505_0 := (HB.out.cell (World.block_lt_of_cell? w _ hx505_0)).trans hx505_0
                    replace p505 := eq_true p505
                    replace q505 := eq_true q505
                    go_wp2
                    go_loopg [12, 13] k2 (fun kq v12 v13 w' => ∃ (x12_3 : List Int) (x13_3 : Int), v13 = .int .i64 x13_3 ∧ Aside0 (pianolalaw10_GasWays.l1 kq l0 l1 l2 t495 x9_2 (wrap64 (x10_2 + (rd l1 x9_2))) x11_2 x12_3 x13_3 = some r) ∧ Aside0 (kq ≤ k2) ∧ Aside0 (Kd.R (Kd.int .i64) 3 w' w.heap.size (fun _ => True) v12 x12_3) ∧ Aside0 (Below w.heap.size w w'))
                    case atStart => exact ⟨(([] : List Int)), (0), (by first | rfl | (simp; done) | (simp [*]; done)), H', ⟨Nat.le_refl _⟩, ⟨by first | exact Kd.R_nil _ _ _ _ _ | exact Kd.N_nil _ _ _ _ _ | exact Kd.V_nil _ _ _ _ _ | exact Kd.Q_nil _ _ _ _ _ | exact Kd.S_nil _ _ _ _ _⟩, ⟨by repeat (first | (with_reducible first | exact HB.out | apply below_alloc | apply pw_below_drewN | apply below_drew1) | exact HB.out)⟩⟩
                    case round =>
                      clear H'
                      try clear c1
                      try clear c2
                      try clear p2
                      try clear c3
                      try clear p5
                      try clear q5
                      try clear hx5
                      try clear p6
                      try clear c8
                      try clear c9
                      try clear c12
                      try clear c13
                      try clear c16
                      try clear c16b0
                      try clear c17
                      try clear c17b0
                      try clear c18
                      try clear c18b0
                      try clear c19
                      try clear c19b0
                      try clear hx505_0
                      try clear p2
                      try clear p505
                      try clear q505
                      obtain ⟨x12_3, x13_3, rfl, HA, HK3, HO_12, HB⟩ := hrel
                      cases gk with
                      | zero => exact absurd HA.out (by simp [pianolalaw10_GasWays.l1])
                      | succ k3 =>
                        have H := HA.out
                        clear HA
                        simp only [pianolalaw10_GasWays.l1] at H
                        by_cases c20 : 0 ≤ x9_2
                        · rw [if_pos c20] at H
                          have c20b0 : decide (0 ≤ x9_2) = true := decide_eq_true c20
                          clear c20
                          by_cases c21 : x9_2 < (l0.length : Int)
                          · rw [if_pos c21] at H
                            have c21b0 : decide (x9_2 < (l0.length : Int)) = true := decide_eq_true c21
                            clear c21
                            by_cases c22 : x13_3 < (((rd_T30 l0 x9_2).f2).length : Int)
                            · rw [if_pos c22] at H
                              have c22b0 : decide (x13_3 < (((rd_T30 l0 x9_2).f2).length : Int)) = true := decide_eq_true c22
                              clear c22
                              by_cases c23 : 0 ≤ x13_3
                              · rw [if_pos c23] at H
                                have c23b0 : decide (0 ≤ x13_3) = true := decide_eq_true c23
                                clear c23
                                by_cases c24 : (rd ((rd_T30 l0 x9_2).f2) x13_3) ≥ 0
                                · rw [if_pos c24] at H
                                  have c24b0 : decide (0 ≤ (rd ((rd_T30 l0 x9_2).f2) x13_3)) = true := decide_eq_true c24
                                  clear c24
                                  by_cases c25 : (rd ((rd_T30 l0 x9_2).f2) x13_3) < (l0.length : Int)
                                  · rw [if_pos c25] at H
                                    have c25b0 : decide ((rd ((rd_T30 l0 x9_2).f2) x13_3) < (l0.length : Int)) = true := decide_eq_true c25
                                    clear c25
                                    by_cases c26 : x12_3.length < 17592186044416
                                    · rw [if_pos c26] at H
                                      have LMc26 := Aside0.mk c26
                                      clear c26
                                      obtain ⟨y509, hy509⟩ : ∃ y_ : List Int, y_ = (x12_3 ++ [rd ((rd_T30 l0 x9_2).f2) x13_3]) := ⟨_, rfl⟩
                                      replace H : (pianolalaw10_GasWays.l1 k3 l0 l1 l2 t495 x9_2 (wrap64 (x10_2 + (rd l1 x9_2))) x11_2 y509 (wrap64 (x13_3 + 1))) = some r := by first | (rw [hy509]; with_reducible exact H) | (have H2_ := (Option.bind_some _ _).symm.trans H; rw [hy509]; with_reducible exact H2_) | (have H2_ := (Option.bind_some _ _).symm.trans H; with_reducible exact H2_) | with_reducible exact H | (rw [hy509]; exact H) | exact H
                                      have Ny509 := Aside0.mk hy509
                                      clear hy509
                                      have H' := Aside0.mk H
                                      clear H
                                      have p506 : 0 ≤ (x9_2 : Int) := of_decide_eq_true (by first | (with_reducible assumption) | assumption)
                                      have q506 : x9_2 < (l0.length : Int) := of_decide_eq_true (by first | (with_reducible assumption) | assumption)
                                      obtain ⟨ad506, A506_2, c506_2, e506, hx506_0, hx506_1, hx506_2, hl506_2, hi506_2⟩ := at_T30 HR0.out x9_2 p506 q506
                                      cases e506
                                      replace hx506_0 := (HB.out.cell (World.block_lt_of_cell? w _ hx506_0)).trans hx506_0
                                      replace hx506_1 := (HB.out.cell (World.block_lt_of_cell? w _ hx506_1)).trans hx506_1
                                      replace hx506_2 := (HB.out.cell (World.block_lt_of_cell? w _ hx506_2)).trans hx506_2
                                      have HR506_2 := Aside0.mk hi506_2
                                      have HC506_2 := Aside0.mk hl506_2
                                      clear hi506_2 hl506_2
                                      replace p506 := eq_true p506
                                      replace q506 := eq_true q506
                                      have p507 : 0 ≤ (x9_2 : Int) := of_decide_eq_true (by first | (with_reducible assumption) | assumption)
                                      have q507 : x9_2 < (l0.length : Int) := of_decide_eq_true (by first | (with_reducible assumption) | assumption)
                                      obtain ⟨ad507, A507_2, c507_2, e507, hx507_0, hx507_1, hx507_2, hl507_2, hi507_2⟩ := at_T30 HR0.out x9_2 p507 q507
                                      obtain rfl : ad506 = ad507 := (by injection e507)
                                      replace hx507_0 := (HB.out.cell (World.block_lt_of_cell? w _ hx507_0)).trans hx507_0
                                      replace hx507_1 := (HB.out.cell (World.block_lt_of_cell? w _ hx507_1)).trans hx507_1
                                      replace hx507_2 := (HB.out.cell (World.block_lt_of_cell? w _ hx507_2)).trans hx507_2
                                      have HR507_2 := Aside0.mk hi507_2
                                      have HC507_2 := Aside0.mk hl507_2
                                      clear hi507_2 hl507_2
                                      replace p507 := eq_true p507
                                      replace q507 := eq_true q507
                                      have ea_ := Option.some.inj (hx506_2.symm.trans hx507_2)
                                      injection ea_ with ea_ en_ ec_
                                      subst ea_
                                      subst ec_
                                      clear en_
                                      have p508 : 0 ≤ (x13_3 : Int) := of_decide_eq_true (by first | (with_reducible assumption) | assumption)
                                      have q508 : x13_3 < (((rd_T30 l0 x9_2).f2).length : Int) := of_decide_eq_true (by first | (with_reducible assumption) | assumption)
                                      obtain ⟨ad508, e508, hx508_0⟩ := Kd.at_int HR507_2.out x13_3 p508 q508
                                      cases e508
                                      replace hx508_0 := (HB.out.cell (World.block_lt_of_cell? w _ hx508_0)).trans hx508_0
                                      replace p508 := eq_true p508
                                      replace q508 := eq_true q508
                                      go_wp2_with (first | ((with_reducible refine gate_builtin (b := .append) (xs := #[.tmp 77, .tmp 79]) rfl ?_); at_builtin; refine Kd.R_append (Kd.int .i64) (w0 := w) w.heap.size rfl (.tmp 77) (.tmp 79) 23 3 (.int .i64 0) 8 rfl Try.underlying23 info3 rfl (by decide) (by omega) u12 x12_3 (rd ((rd_T30 l0 x9_2).f2) x13_3) [.int .i64 (rd ((rd_T30 l0 x9_2).f2) x13_3)] (fun _ => True) (fun _ => False) rfl rfl ?aP (fun _ hk => hk.elim) ?aF ?aO ?aB ?aS ?aL ?_; (case aP => exact rfl); (case aB => exact (by repeat (first | (with_reducible first | exact HB.out | apply below_alloc | apply pw_below_drewN | apply below_drew1) | exact HB.out))); (case aF => exact (fun _ _ => trivial)); (case aO => exact (by (with_reducible repeat (first | apply Kd.R_alloc | apply Kd.R_drewN | apply Kd.R_drew)); exact HO_12.out)); (case aS => exact (below_size (by repeat (first | (with_reducible first | exact HB.out | apply below_alloc | apply pw_below_drewN | apply below_drew1) | exact HB.out)))); (case aL => have := LMc26.out; omega); intro v510 w27 ho hb hg hat; rw [← Ny509.out] at ho; have n0_ := Aside0.mk (hb); have n1_ := Aside0.mk (ho); clear HB; clear HO_12; have HB := n0_; have HO511 := n1_; clear n0_ n1_; clear ho hb hg hat))
                                      go_roundg k3
                                      case measure => have := HJ4.out; have := HK2.out; have := HK3.out; omega
                                      case rel => exact ⟨(y509), (wrap64 (x13_3 + 1)), (by first | rfl | (simp; done) | (simp [*]; done)), H', ⟨by have := HJ4.out; have := HK2.out; have := HK3.out; omega⟩, ⟨by (with_reducible repeat (first | apply Kd.R_alloc | apply Kd.R_drewN | apply Kd.R_drew)); exact HO511.out⟩, ⟨by repeat (first | (with_reducible first | exact HB.out | apply below_alloc | apply pw_below_drewN | apply below_drew1) | exact HB.out)⟩⟩
                                    · rw [if_neg c26] at H
                                      exact absurd H (by simp)
                                  · rw [if_neg c25] at H
                                    have c25b0 : decide ((rd ((rd_T30 l0 x9_2).f2) x13_3) < (l0.length : Int)) = false := decide_eq_false c25
                                    clear c25
                                    have H' := Aside0.mk H
                                    clear H
                                    have p506 : 0 ≤ (x9_2 : Int) := of_decide_eq_true (by first | (with_reducible assumption) | assumption)
                                    have q506 : x9_2 < (l0.length : Int) := of_decide_eq_true (by first | (with_reducible assumption) | assumption)
                                    obtain ⟨ad506, A506_2, c506_2, e506, hx506_0, hx506_1, hx506_2, hl506_2, hi506_2⟩ := at_T30 HR0.out x9_2 p506 q506
                                    cases e506
                                    replace hx506_0 := (HB.out.cell (World.block_lt_of_cell? w _ hx506_0)).trans hx506_0
                                    replace hx506_1 := (HB.out.cell (World.block_lt_of_cell? w _ hx506_1)).trans hx506_1
                                    replace hx506_2 := (HB.out.cell (World.block_lt_of_cell? w _ hx506_2)).trans hx506_2
                                    have HR506_2 := Aside0.mk hi506_2
                                    have HC506_2 := Aside0.mk hl506_2
                                    clear hi506_2 hl506_2
                                    replace p506 := eq_true p506
                                    replace q506 := eq_true q506
                                    have p507 : 0 ≤ (x9_2 : Int) := of_decide_eq_true (by first | (with_reducible assumption) | assumption)
                                    have q507 : x9_2 < (l0.length : Int) := of_decide_eq_true (by first | (with_reducible assumption) | assumption)
                                    obtain ⟨ad507, A507_2, c507_2, e507, hx507_0, hx507_1, hx507_2, hl507_2, hi507_2⟩ := at_T30 HR0.out x9_2 p507 q507
                                    obtain rfl : ad506 = ad507 := (by injection e507)
                                    replace hx507_0 := (HB.out.cell (World.block_lt_of_cell? w _ hx507_0)).trans hx507_0
                                    replace hx507_1 := (HB.out.cell (World.block_lt_of_cell? w _ hx507_1)).trans hx507_1
                                    replace hx507_2 := (HB.out.cell (World.block_lt_of_cell? w _ hx507_2)).trans hx507_2
                                    have HR507_2 := Aside0.mk hi507_2
                                    have HC507_2 := Aside0.mk hl507_2
                                    clear hi507_2 hl507_2
                                    replace p507 := eq_true p507
                                    replace q507 := eq_true q507
                                    have ea_ := Option.some.inj (hx506_2.symm.trans hx507_2)
                                    injection ea_ with ea_ en_ ec_
                                    subst ea_
                                    subst ec_
                                    clear en_
                                    have p508 : 0 ≤ (x13_3 : Int) := of_decide_eq_true (by first | (with_reducible assumption) | assumption)
                                    have q508 : x13_3 < (((rd_T30 l0 x9_2).f2).length : Int) := of_decide_eq_true (by first | (with_reducible assumption) | assumption)
                                    obtain ⟨ad508, e508, hx508_0⟩ := Kd.at_int HR507_2.out x13_3 p508 q508
                                    cases e508
                                    replace hx508_0 := (HB.out.cell (World.block_lt_of_cell? w _ hx508_0)).trans hx508_0
                                    replace p508 := eq_true p508
                                    replace q508 := eq_true q508
                                    go_wp2
                                    go_roundg k3
                                    case measure => have := HJ4.out; have := HK2.out; have := HK3.out; omega
                                    case rel => exact ⟨(x12_3), (wrap64 (x13_3 + 1)), (by first | rfl | (simp; done) | (simp [*]; done)), H', ⟨by have := HJ4.out; have := HK2.out; have := HK3.out; omega⟩, ⟨by (with_reducible repeat (first | apply Kd.R_alloc | apply Kd.R_drewN | apply Kd.R_drew)); exact HO_12.out⟩, ⟨by repeat (first | (with_reducible first | exact HB.out | apply below_alloc | apply pw_below_drewN | apply below_drew1) | exact HB.out)⟩⟩
                                · rw [if_neg c24] at H
                                  have c24b0 : decide (0 ≤ (rd ((rd_T30 l0 x9_2).f2) x13_3)) = false := decide_eq_false c24
                                  clear c24
                                  have H' := Aside0.mk H
                                  clear H
                                  have p506 : 0 ≤ (x9_2 : Int) := of_decide_eq_true (by first | (with_reducible assumption) | assumption)
                                  have q506 : x9_2 < (l0.length : Int) := of_decide_eq_true (by first | (with_reducible assumption) | assumption)
                                  obtain ⟨ad506, A506_2, c506_2, e506, hx506_0, hx506_1, hx506_2, hl506_2, hi506_2⟩ := at_T30 HR0.out x9_2 p506 q506
                                  cases e506
                                  replace hx506_0 := (HB.out.cell (World.block_lt_of_cell? w _ hx506_0)).trans hx506_0
                                  replace hx506_1 := (HB.out.cell (World.block_lt_of_cell? w _ hx506_1)).trans hx506_1
                                  replace hx506_2 := (HB.out.cell (World.block_lt_of_cell? w _ hx506_2)).trans hx506_2
                                  have HR506_2 := Aside0.mk hi506_2
                                  have HC506_2 := Aside0.mk hl506_2
                                  clear hi506_2 hl506_2
                                  replace p506 := eq_true p506
                                  replace q506 := eq_true q506
                                  have p507 : 0 ≤ (x9_2 : Int) := of_decide_eq_true (by first | (with_reducible assumption) | assumption)
                                  have q507 : x9_2 < (l0.length : Int) := of_decide_eq_true (by first | (with_reducible assumption) | assumption)
                                  obtain ⟨ad507, A507_2, c507_2, e507, hx507_0, hx507_1, hx507_2, hl507_2, hi507_2⟩ := at_T30 HR0.out x9_2 p507 q507
                                  obtain rfl : ad506 = ad507 := (by injection e507)
                                  replace hx507_0 := (HB.out.cell (World.block_lt_of_cell? w _ hx507_0)).trans hx507_0
                                  replace hx507_1 := (HB.out.cell (World.block_lt_of_cell? w _ hx507_1)).trans hx507_1
                                  replace hx507_2 := (HB.out.cell (World.block_lt_of_cell? w _ hx507_2)).trans hx507_2
                                  have HR507_2 := Aside0.mk hi507_2
                                  have HC507_2 := Aside0.mk hl507_2
                                  clear hi507_2 hl507_2
                                  replace p507 := eq_true p507
                                  replace q507 := eq_true q507
                                  have ea_ := Option.some.inj (hx506_2.symm.trans hx507_2)
                                  injection ea_ with ea_ en_ ec_
                                  subst ea_
                                  subst ec_
                                  clear en_
                                  have p508 : 0 ≤ (x13_3 : Int) := of_decide_eq_true (by first | (with_reducible assumption) | assumption)
                                  have q508 : x13_3 < (((rd_T30 l0 x9_2).f2).length : Int) := of_decide_eq_true (by first | (with_reducible assumption) | assumption)
                                  obtain ⟨ad508, e508, hx508_0⟩ := Kd.at_int HR507_2.out x13_3 p508 q508
                                  cases e508
                                  replace hx508_0 := (HB.out.cell (World.block_lt_of_cell? w _ hx508_0)).trans hx508_0
                                  replace p508 := eq_true p508
                                  replace q508 := eq_true q508
                                  go_wp2
                                  go_roundg k3
                                  case measure => have := HJ4.out; have := HK2.out; have := HK3.out; omega
                                  case rel => exact ⟨(x12_3), (wrap64 (x13_3 + 1)), (by first | rfl | (simp; done) | (simp [*]; done)), H', ⟨by have := HJ4.out; have := HK2.out; have := HK3.out; omega⟩, ⟨by (with_reducible repeat (first | apply Kd.R_alloc | apply Kd.R_drewN | apply Kd.R_drew)); exact HO_12.out⟩, ⟨by repeat (first | (with_reducible first | exact HB.out | apply below_alloc | apply pw_below_drewN | apply below_drew1) | exact HB.out)⟩⟩
                              · rw [if_neg c23] at H
                                exact absurd H (by simp)
                            · rw [if_neg c22] at H
                              have c22b0 : decide (x13_3 < (((rd_T30 l0 x9_2).f2).length : Int)) = false := decide_eq_false c22
                              clear c22
                              by_cases c28 : (x12_3.length : Int) = 0
                              · rw [if_pos c28] at H
                                have c28b0 : ((x12_3.length : Int) == 0) = true := beq_iff_eq.mpr c28
                                have c28b1 : ((x12_3.length : Int) != 0) = false := bne_eq_false_iff_eq.mpr c28
                                clear c28
                                obtain rfl := Option.some.inj H
                                have p506 : 0 ≤ (x9_2 : Int) := of_decide_eq_true (by first | (with_reducible assumption) | assumption)
                                have q506 : x9_2 < (l0.length : Int) := of_decide_eq_true (by first | (with_reducible assumption) | assumption)
                                obtain ⟨ad506, A506_2, c506_2, e506, hx506_0, hx506_1, hx506_2, hl506_2, hi506_2⟩ := at_T30 HR0.out x9_2 p506 q506
                                cases e506
                                replace hx506_0 := (HB.out.cell (World.block_lt_of_cell? w _ hx506_0)).trans hx506_0
                                replace hx506_1 := (HB.out.cell (World.block_lt_of_cell? w _ hx506_1)).trans hx506_1
                                replace hx506_2 := (HB.out.cell (World.block_lt_of_cell? w _ hx506_2)).trans hx506_2
                                have HR506_2 := Aside0.mk hi506_2
                                have HC506_2 := Aside0.mk hl506_2
                                clear hi506_2 hl506_2
                                replace p506 := eq_true p506
                                replace q506 := eq_true q506
                                obtain ⟨Ao29, co29, eo29⟩ := Kd.R_slice HO_12.out
                                subst eo29
                                go_wp2
                                go_ret
                                exact ⟨by first | rfl | (simp [errW_none, errW_some] <;> rfl) | (simp [*, errW_none, errW_some] <;> rfl), by repeat (first | (with_reducible first | exact HB.out | apply below_alloc | apply pw_below_drewN | apply below_drew1) | exact HB.out)⟩
                              · rw [if_neg c28] at H
                                have c28b0 : ((x12_3.length : Int) == 0) = false := beq_eq_false_iff_ne.mpr c28
                                have c28b1 : ((x12_3.length : Int) != 0) = true := bne_iff_ne.mpr c28
                                have c28b2 : ¬ (x12_3 = []) := fun h_ => c28 (by rw [h_]; rfl)
                                by_cases c30 : x11_2 < (l2.length : Int)
                                · rw [if_pos c30] at H
                                  have c30b0 : decide (x11_2 < (l2.length : Int)) = true := decide_eq_true c30
                                  clear c30
                                  by_cases c31 : 0 ≤ x11_2
                                  · rw [if_pos c31] at H
                                    have c31b0 : decide (0 ≤ x11_2) = true := decide_eq_true c31
                                    clear c31
                                    by_cases c32 : (Int.tmod (rd l2 x11_2) (x12_3.length : Int)) < 0
                                    · rw [if_pos c32] at H
                                      have c32b0 : decide ((Int.tmod (rd l2 x11_2) (x12_3.length : Int)) < 0) = true := decide_eq_true c32
                                      clear c32
                                      obtain ⟨ji33, hji33⟩ : ∃ j_ : Int, (wrap64 (-(Int.tmod (rd l2 x11_2) (x12_3.length : Int)))) = j_ := ⟨_, rfl⟩
                                      replace H : (if 0 ≤ (ji33) then (if (ji33) < (x12_3.length : Int) then (pianolalaw10_GasWays.l0 k3 l0 l1 l2 t495 (rd x12_3 (ji33)) (wrap64 (x10_2 + (rd l1 x9_2))) (wrap64 (x11_2 + 1))) else (none)) else (none)) = some r := by first | (rw [hji33] at H; exact H) | (simp only [hji33] at H ⊢; exact H)
                                      have hji33w : (IntKind.i64.wrap (-(Int.tmod (rd l2 x11_2) (x12_3.length : Int)))) = ji33 := (i64_w _).trans hji33
                                      by_cases c34 : 0 ≤ (ji33)
                                      · rw [if_pos c34] at H
                                        have c34b0 : decide (0 ≤ (ji33)) = true := decide_eq_true c34
                                        clear c34
                                        by_cases c35 : (ji33) < (x12_3.length : Int)
                                        · rw [if_pos c35] at H
                                          have c35b0 : decide ((ji33) < (x12_3.length : Int)) = true := decide_eq_true c35
                                          clear c35
                                          have H' := Aside0.mk H
                                          clear H
                                          have p506 : 0 ≤ (x9_2 : Int) := of_decide_eq_true (by first | (with_reducible assumption) | assumption)
                                          have q506 : x9_2 < (l0.length : Int) := of_decide_eq_true (by first | (with_reducible assumption) | assumption)
                                          obtain ⟨ad506, A506_2, c506_2, e506, hx506_0, hx506_1, hx506_2, hl506_2, hi506_2⟩ := at_T30 HR0.out x9_2 p506 q506
                                          cases e506
                                          replace hx506_0 := (HB.out.cell (World.block_lt_of_cell? w _ hx506_0)).trans hx506_0
                                          replace hx506_1 := (HB.out.cell (World.block_lt_of_cell? w _ hx506_1)).trans hx506_1
                                          replace hx506_2 := (HB.out.cell (World.block_lt_of_cell? w _ hx506_2)).trans hx506_2
                                          have HR506_2 := Aside0.mk hi506_2
                                          have HC506_2 := Aside0.mk hl506_2
                                          clear hi506_2 hl506_2
                                          replace p506 := eq_true p506
                                          replace q506 := eq_true q506
                                          obtain ⟨Ao36, co36, eo36⟩ := Kd.R_slice HO_12.out
                                          subst eo36
                                          have p512 : 0 ≤ (x11_2 : Int) := of_decide_eq_true (by first | (with_reducible assumption) | assumption)
                                          have q512 : x11_2 < (l2.length : Int) := of_decide_eq_true (by first | (with_reducible assumption) | assumption)
                                          obtain ⟨ad512, e512, hx512_0⟩ := Kd.at_int HR2.out x11_2 p512 q512
                                          cases e512
                                          replace hx512_0 := (HB.out.cell (World.block_lt_of_cell? w _ hx512_0)).trans hx512_0
                                          replace p512 := eq_true p512
                                          replace q512 := eq_true q512
                                          have p513 : 0 ≤ ((ji33) : Int) := of_decide_eq_true (by first | (with_reducible assumption) | assumption)
                                          have q513 : (ji33) < (x12_3.length : Int) := of_decide_eq_true (by first | (with_reducible assumption) | assumption)
                                          obtain ⟨ad513, e513, hx513_0⟩ := Kd.at_int (Kd.R_reads' HO_12.out).2.2 (ji33) p513 q513
                                          cases e513
                                          replace p513 := eq_true p513
                                          replace q513 := eq_true q513
                                          go_wp2
                                          go_roundg k3
                                          case measure => have := HJ4.out; have := HK2.out; have := HK3.out; omega
                                          case rel => exact ⟨(rd x12_3 (ji33)), ((wrap64 (x10_2 + (rd l1 x9_2)))), (wrap64 (x11_2 + 1)), (by first | rfl | (simp; done) | (simp only [← hji33] <;> (first | rfl | simp)) | (simp [*]; done)), (by first | rfl | (simp; done) | (simp [*]; done)), (by first | rfl | (simp; done) | (simp [*]; done)), H', ⟨by have := HJ4.out; have := HK2.out; have := HK3.out; omega⟩, ⟨by repeat (first | (with_reducible first | exact HB.out | apply below_alloc | apply pw_below_drewN | apply below_drew1) | exact HB.out)⟩⟩
                                        · rw [if_neg c35] at H
                                          exact absurd H (by simp)
                                      · rw [if_neg c34] at H
                                        exact absurd H (by simp)
                                    · rw [if_neg c32] at H
                                      have c32b0 : decide ((Int.tmod (rd l2 x11_2) (x12_3.length : Int)) < 0) = false := decide_eq_false c32
                                      clear c32
                                      obtain ⟨ji37, hji37⟩ : ∃ j_ : Int, (Int.tmod (rd l2 x11_2) (x12_3.length : Int)) = j_ := ⟨_, rfl⟩
                                      replace H : (if 0 ≤ (ji37) then (if (ji37) < (x12_3.length : Int) then (pianolalaw10_GasWays.l0 k3 l0 l1 l2 t495 (rd x12_3 (ji37)) (wrap64 (x10_2 + (rd l1 x9_2))) (wrap64 (x11_2 + 1))) else (none)) else (none)) = some r := by first | (rw [hji37] at H; exact H) | (simp only [hji37] at H ⊢; exact H)
                                      (try rw [hji37] at c32b0)
                                      by_cases c38 : 0 ≤ (ji37)
                                      · rw [if_pos c38] at H
                                        have c38b0 : decide (0 ≤ (ji37)) = true := decide_eq_true c38
                                        clear c38
                                        by_cases c39 : (ji37) < (x12_3.length : Int)
                                        · rw [if_pos c39] at H
                                          have c39b0 : decide ((ji37) < (x12_3.length : Int)) = true := decide_eq_true c39
                                          clear c39
                                          have H' := Aside0.mk H
                                          clear H
                                          have p506 : 0 ≤ (x9_2 : Int) := of_decide_eq_true (by first | (with_reducible assumption) | assumption)
                                          have q506 : x9_2 < (l0.length : Int) := of_decide_eq_true (by first | (with_reducible assumption) | assumption)
                                          obtain ⟨ad506, A506_2, c506_2, e506, hx506_0, hx506_1, hx506_2, hl506_2, hi506_2⟩ := at_T30 HR0.out x9_2 p506 q506
                                          cases e506
                                          replace hx506_0 := (HB.out.cell (World.block_lt_of_cell? w _ hx506_0)).trans hx506_0
                                          replace hx506_1 := (HB.out.cell (World.block_lt_of_cell? w _ hx506_1)).trans hx506_1
                                          replace hx506_2 := (HB.out.cell (World.block_lt_of_cell? w _ hx506_2)).trans hx506_2
                                          have HR506_2 := Aside0.mk hi506_2
                                          have HC506_2 := Aside0.mk hl506_2
                                          clear hi506_2 hl506_2
                                          replace p506 := eq_true p506
                                          replace q506 := eq_true q506
                                          obtain ⟨Ao40, co40, eo40⟩ := Kd.R_slice HO_12.out
                                          subst eo40
                                          have p512 : 0 ≤ (x11_2 : Int) := of_decide_eq_true (by first | (with_reducible assumption) | assumption)
                                          have q512 : x11_2 < (l2.length : Int) := of_decide_eq_true (by first | (with_reducible assumption) | assumption)
                                          obtain ⟨ad512, e512, hx512_0⟩ := Kd.at_int HR2.out x11_2 p512 q512
                                          cases e512
                                          replace hx512_0 := (HB.out.cell (World.block_lt_of_cell? w _ hx512_0)).trans hx512_0
                                          replace p512 := eq_true p512
                                          replace q512 := eq_true q512
                                          have p514 : 0 ≤ ((ji37) : Int) := of_decide_eq_true (by first | (with_reducible assumption) | assumption)
                                          have q514 : (ji37) < (x12_3.length : Int) := of_decide_eq_true (by first | (with_reducible assumption) | assumption)
                                          obtain ⟨ad514, e514, hx514_0⟩ := Kd.at_int (Kd.R_reads' HO_12.out).2.2 (ji37) p514 q514
                                          cases e514
                                          replace p514 := eq_true p514
                                          replace q514 := eq_true q514
                                          go_wp2
                                          go_roundg k3
                                          case measure => have := HJ4.out; have := HK2.out; have := HK3.out; omega
                                          case rel => exact ⟨(rd x12_3 (ji37)), ((wrap64 (x10_2 + (rd l1 x9_2)))), (wrap64 (x11_2 + 1)), (by first | rfl | (simp; done) | (simp only [← hji37] <;> (first | rfl | simp)) | (simp [*]; done)), (by first | rfl | (simp; done) | (simp [*]; done)), (by first | rfl | (simp; done) | (simp [*]; done)), H', ⟨by have := HJ4.out; have := HK2.out; have := HK3.out; omega⟩, ⟨by repeat (first | (with_reducible first | exact HB.out | apply below_alloc | apply pw_below_drewN | apply below_drew1) | exact HB.out)⟩⟩
                                        · rw [if_neg c39] at H
                                          exact absurd H (by simp)
                                      · rw [if_neg c38] at H
                                        exact absurd H (by simp)
                                  · rw [if_neg c31] at H
                                    exact absurd H (by simp)
                                · rw [if_neg c30] at H
                                  have c30b0 : decide (x11_2 < (l2.length : Int)) = false := decide_eq_false c30
                                  clear c30
                                  by_cases c41 : 0 < (x12_3.length : Int)
                                  · rw [if_pos c41] at H
                                    have c41b0 : decide (0 < (x12_3.length : Int)) = true := decide_eq_true c41
                                    have c41b1 : decide (0 < x12_3.length) = true := decide_eq_true (by omega)
                                    clear c41
                                    have H' := Aside0.mk H
                                    clear H
                                    have p506 : 0 ≤ (x9_2 : Int) := of_decide_eq_true (by first | (with_reducible assumption) | assumption)
                                    have q506 : x9_2 < (l0.length : Int) := of_decide_eq_true (by first | (with_reducible assumption) | assumption)
                                    obtain ⟨ad506, A506_2, c506_2, e506, hx506_0, hx506_1, hx506_2, hl506_2, hi506_2⟩ := at_T30 HR0.out x9_2 p506 q506
                                    cases e506
                                    replace hx506_0 := (HB.out.cell (World.block_lt_of_cell? w _ hx506_0)).trans hx506_0
                                    replace hx506_1 := (HB.out.cell (World.block_lt_of_cell? w _ hx506_1)).trans hx506_1
                                    replace hx506_2 := (HB.out.cell (World.block_lt_of_cell? w _ hx506_2)).trans hx506_2
                                    have HR506_2 := Aside0.mk hi506_2
                                    have HC506_2 := Aside0.mk hl506_2
                                    clear hi506_2 hl506_2
                                    replace p506 := eq_true p506
                                    replace q506 := eq_true q506
                                    obtain ⟨Ao42, co42, eo42⟩ := Kd.R_slice HO_12.out
                                    subst eo42
                                    have p515 : 0 ≤ (0 : Int) := (by omega)
                                    have q515 : 0 < (x12_3.length : Int) := of_decide_eq_true (by first | (with_reducible assumption) | assumption)
                                    obtain ⟨ad515, e515, hx515_0⟩ := Kd.at_int (Kd.R_reads' HO_12.out).2.2 0 p515 q515
                                    cases e515
                                    have qi515 : (0 < x12_3.length) = True := eq_true (by omega)
                                    (try rw [show ((0 : Int)).toNat = 0 from rfl] at hx515_0)
                                    (try rw [Addr.add_zero'] at hx515_0)
                                    replace p515 := eq_true p515
                                    replace q515 := eq_true q515
                                    go_wp2
                                    go_roundg k3
                                    case measure => have := HJ4.out; have := HK2.out; have := HK3.out; omega
                                    case rel => exact ⟨(rd x12_3 0), ((wrap64 (x10_2 + (rd l1 x9_2)))), (wrap64 (x11_2 + 1)), (by first | rfl | (simp; done) | (simp [*]; done)), (by first | rfl | (simp; done) | (simp [*]; done)), (by first | rfl | (simp; done) | (simp [*]; done)), H', ⟨by have := HJ4.out; have := HK2.out; have := HK3.out; omega⟩, ⟨by repeat (first | (with_reducible first | exact HB.out | apply below_alloc | apply pw_below_drewN | apply below_drew1) | exact HB.out)⟩⟩
                                  · rw [if_neg c41] at H
                                    exact absurd H (by simp)
                          · rw [if_neg c21] at H
                            exact absurd H (by simp)
                        · rw [if_neg c20] at H
                          exact absurd H (by simp)
                · rw [if_neg c18] at H
                  exact absurd H (by simp)
              · rw [if_neg c17] at H
                exact absurd H (by simp)
            · rw [if_neg c16] at H
              have c16b0 : decide (x11_2 ≤ (l0.length : Int)) = false := decide_eq_false c16
              clear c16
              replace H := Option.bind_eq_some_iff.mp H
              obtain ⟨⟨t499, t500⟩, A430, H⟩ := H
              replace H : (some ((t499.length : Int) == 0)) = some r := H
              have A43 := Aside0.mk A430
              clear A430
              obtain rfl := Option.some.inj H
              go_wp2_with (first | ((with_reducible refine gate_callee (f := 19) rfl ?_); refine goesL_ (some 105) rfl rfl Try.func19 (by kernel_rfl) rfl #[.slice A0 l0.length c0, .int .i64 (-1)] rfl (by (try simp only [List.map_toArray, List.map_cons, List.map_nil]); first | done | rfl | (simp only [List.length_drop, List.length_take]; rfl)) ?_; (with_reducible refine (pianolaref08_Walk.calls _ _ l0 (-1) t499 t500 _ ?side1 ?side2 A43.out).mono ?_); (case side1 => repeat (first | exact (Kd.C_below HR0.out HB.out) | (with_reducible refine Kd.C_alloc ?_ _) | (with_reducible refine Kd.C_drewN ?_ _) | (with_reducible refine Kd.C_drew ?_))); (case side2 => exact HC0.out); rintro e w44 ⟨v501, v503, rfl, ho0, ho1, hb⟩; refine ⟨_, rfl, ?_⟩; have n0_ := Aside0.mk (Kd.R_lower ho0 (below_size (by repeat (first | (with_reducible first | exact HB.out | apply below_alloc | apply pw_below_drewN | apply below_drew1) | exact HB.out)))); have n1_ := Aside0.mk (Kd.R_lower ho1 (below_size (by repeat (first | (with_reducible first | exact HB.out | apply below_alloc | apply pw_below_drewN | apply below_drew1) | exact HB.out)))); have n2_ := Aside0.mk (below_step (by repeat (first | (with_reducible first | exact HB.out | apply below_alloc | apply pw_below_drewN | apply below_drew1) | exact HB.out)) hb); clear HB; have HO502 := n0_; have HO504 := n1_; have HB := n2_; clear n0_ n1_ n2_; (try clear hb); (try clear hb2); (try clear hk); (try clear hi); (try clear ho0); (try clear ho1); obtain ⟨Ao45, co45, eo45⟩ := Kd.R_slice HO502.out; subst eo45))
              go_ret
              exact ⟨by first | rfl | (simp [errW_none, errW_some] <;> rfl) | (simp [*, errW_none, errW_some] <;> rfl), by repeat (first | (with_reducible first | exact HB.out | apply below_alloc | apply pw_below_drewN | apply below_drew1) | exact HB.out)⟩

end Go.Proofs.Ytpfbfnbffglbkaa.P
