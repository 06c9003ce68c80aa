/- Ytpfbfnbffglbkaa: what Go functions come to, and that they do: walks, printed by a program of this session or typed by hand; no statement of the seat stands here. -/
import Derived.Test.YtpfbfnbffglbkaaP0
import Derived.Test.YtpfbfnbffglbkaaPF14
import Derived.Test.YtpfbfnbffglbkaaPF13
import Derived.Test.YtpfbfnbffglbkaaPF18
namespace Go.Proofs.Ytpfbfnbffglbkaa.P
open Go.RowKit Go.Proofs.YtpfbfnbffglbkaaW.PrintWords Go.Proofs.YtpfbfnbffglbkaaW.PrintLast Go.Proofs.YtpfbfnbffglbkaaW.PrintMore
attribute [local go_sem] max2_int min2_int max_two min_two max_three min_three max_four min_four   -- for this text's walks alone
set_option linter.unusedVariables false
set_option linter.unusedSimpArgs false

/-! ### pianolalaw08_FlowParts: function 7 -/
mutual
def pianolalaw08_FlowParts.j0 : Nat → List (S34) → List (S30) → Bool → Option (Bool)
  | 0, _, _, _ => none
  | k + 1, x0, x5, x27 => if x27 = true then ((pianolalaw08_lives.f).bind fun t313 => (some t313)) else (pianolalaw08_FlowParts.l0 k x0 x5 0 0)
def pianolalaw08_FlowParts.l0 : Nat → List (S34) → List (S30) → Int → Int → Option (Bool)
  | 0, _, _, _, _ => none
  | k + 1, x0, x5, x8, x9 => if x9 < (x5.length : Int) then (if 0 ≤ x9 then (if ((rd_T30 x5 x9).f0) = x8 then (if ((rd_T30 x5 x9).f1) ≤ x8 then (pianolalaw08_FlowParts.j2 k x0 x5 x9 true) else (pianolalaw08_FlowParts.j2 k x0 x5 x9 (decide (((rd_T30 x5 x9).f1) > (x0.length : Int))))) else (pianolalaw08_FlowParts.j2 k x0 x5 x9 true)) else (none)) else (some (x8 == (x0.length : Int)))
def pianolalaw08_FlowParts.j2 : Nat → List (S34) → List (S30) → Int → Bool → Option (Bool)
  | 0, _, _, _, _ => none
  | k + 1, x0, x5, x9, x60 => if x60 = true then (some false) else (if 0 ≤ x9 then (if x9 < (x5.length : Int) then (pianolalaw08_FlowParts.l1 k x0 x5 x9 ((rd_T30 x5 x9).f0)) else (none)) else (none))
def pianolalaw08_FlowParts.l1 : Nat → List (S34) → List (S30) → Int → Int → Option (Bool)
  | 0, _, _, _, _ => none
  | k + 1, x0, x5, x9, x10 => if 0 ≤ x9 then (if x9 < (x5.length : Int) then (if x10 < (wrap64 (((rd_T30 x5 x9).f1) - 1)) then (if 0 ≤ x10 then (if x10 < (x0.length : Int) then ((pianolaref08_Ends.f ((rd_T34 x0 x10).f0)).bind fun t320 => (if t320 = true then (some false) else (pianolalaw08_FlowParts.l1 k x0 x5 x9 (wrap64 (x10 + 1))))) else (none)) else (none)) else (pianolalaw08_FlowParts.l0 k x0 x5 ((rd_T30 x5 x9).f1) (wrap64 (x9 + 1)))) else (none)) else (none)
end
def pianolalaw08_FlowParts.f (k : Nat) (l0 : List (S34)) (l1 : List Int) : Option (Bool) := if (l0.length : Int) > 300 then ((pianolalaw08_lives.f).bind fun t306 => (some t306)) else ((flow_Blocks.f k l0 l1).bind fun bt307 => ((pianolalaw08_lives.f).bind fun t312 => (if t312 = true then (pianolalaw08_FlowParts.j0 k l0 bt307.1 (bt307.2.1 != 0)) else (pianolalaw08_FlowParts.j0 k l0 bt307.1 true))))
theorem pianolalaw08_FlowParts.mono_l : ∀ k, (∀ y0 y1 y2, LeO (pianolalaw08_FlowParts.j0 k y0 y1 y2) (pianolalaw08_FlowParts.j0 (k + 1) y0 y1 y2)) ∧ (∀ y0 y1 y2 y3, LeO (pianolalaw08_FlowParts.l0 k y0 y1 y2 y3) (pianolalaw08_FlowParts.l0 (k + 1) y0 y1 y2 y3)) ∧ (∀ y0 y1 y2 y3, LeO (pianolalaw08_FlowParts.j2 k y0 y1 y2 y3) (pianolalaw08_FlowParts.j2 (k + 1) y0 y1 y2 y3)) ∧ (∀ y0 y1 y2 y3, LeO (pianolalaw08_FlowParts.l1 k y0 y1 y2 y3) (pianolalaw08_FlowParts.l1 (k + 1) y0 y1 y2 y3))
  | 0 => ⟨fun _ _ _ r h => by simp [pianolalaw08_FlowParts.j0] at h, fun _ _ _ _ r h => by simp [pianolalaw08_FlowParts.l0] at h, fun _ _ _ _ r h => by simp [pianolalaw08_FlowParts.j2] at h, fun _ _ _ _ r h => by simp [pianolalaw08_FlowParts.l1] at h⟩
  | k + 1 => by
    obtain ⟨ih0, ih1, ih2, ih3⟩ := pianolalaw08_FlowParts.mono_l k
    refine ⟨?_, ?_, ?_, ?_⟩
    · intro y0 y1 y2
      unfold pianolalaw08_FlowParts.j0
      repeat' first
      | (with_reducible exact ih0 _ _ _)
      | (with_reducible exact ih1 _ _ _ _)
      | (with_reducible exact ih2 _ _ _ _)
      | (with_reducible exact ih3 _ _ _ _)
      | (with_reducible exact flow_Blocks.mono _ _ _)
      | (with_reducible exact LeO.refl _)
      | (with_reducible exact LeO.none _)
      | (with_reducible refine LeO.ite ?_ ?_)
      | (with_reducible refine LeO.bind ?_ (fun _ => ?_))
      | exact ih0 _ _ _
      | exact ih1 _ _ _ _
      | exact ih2 _ _ _ _
      | exact ih3 _ _ _ _
      | exact flow_Blocks.mono _ _ _
      | exact LeO.none _
      | refine LeO.ite ?_ ?_
      | refine LeO.bind ?_ (fun _ => ?_)
    · intro y0 y1 y2 y3
      unfold pianolalaw08_FlowParts.l0
      repeat' first
      | (with_reducible exact ih0 _ _ _)
      | (with_reducible exact ih1 _ _ _ _)
      | (with_reducible exact ih2 _ _ _ _)
      | (with_reducible exact ih3 _ _ _ _)
      | (with_reducible exact flow_Blocks.mono _ _ _)
      | (with_reducible exact LeO.refl _)
      | (with_reducible exact LeO.none _)
      | (with_reducible refine LeO.ite ?_ ?_)
      | (with_reducible refine LeO.bind ?_ (fun _ => ?_))
      | exact ih0 _ _ _
      | exact ih1 _ _ _ _
      | exact ih2 _ _ _ _
      | exact ih3 _ _ _ _
      | exact flow_Blocks.mono _ _ _
      | exact LeO.none _
      | refine LeO.ite ?_ ?_
      | refine LeO.bind ?_ (fun _ => ?_)
    · intro y0 y1 y2 y3
      unfold pianolalaw08_FlowParts.j2
      repeat' first
      | (with_reducible exact ih0 _ _ _)
      | (with_reducible exact ih1 _ _ _ _)
      | (with_reducible exact ih2 _ _ _ _)
      | (with_reducible exact ih3 _ _ _ _)
      | (with_reducible exact flow_Blocks.mono _ _ _)
      | (with_reducible exact LeO.refl _)
      | (with_reducible exact LeO.none _)
      | (with_reducible refine LeO.ite ?_ ?_)
      | (with_reducible refine LeO.bind ?_ (fun _ => ?_))
      | exact ih0 _ _ _
      | exact ih1 _ _ _ _
      | exact ih2 _ _ _ _
      | exact ih3 _ _ _ _
      | exact flow_Blocks.mono _ _ _
      | exact LeO.none _
      | refine LeO.ite ?_ ?_
      | refine LeO.bind ?_ (fun _ => ?_)
    · intro y0 y1 y2 y3
      unfold pianolalaw08_FlowParts.l1
      repeat' first
      | (with_reducible exact ih0 _ _ _)
      | (with_reducible exact ih1 _ _ _ _)
      | (with_reducible exact ih2 _ _ _ _)
      | (with_reducible exact ih3 _ _ _ _)
      | (with_reducible exact flow_Blocks.mono _ _ _)
      | (with_reducible exact LeO.refl _)
      | (with_reducible exact LeO.none _)
      | (with_reducible refine LeO.ite ?_ ?_)
      | (with_reducible refine LeO.bind ?_ (fun _ => ?_))
      | exact ih0 _ _ _
      | exact ih1 _ _ _ _
      | exact ih2 _ _ _ _
      | exact ih3 _ _ _ _
      | exact flow_Blocks.mono _ _ _
      | exact LeO.none _
      | refine LeO.ite ?_ ?_
      | refine LeO.bind ?_ (fun _ => ?_)
theorem pianolalaw08_FlowParts.mono : ∀ a0 a1 k, LeO (pianolalaw08_FlowParts.f k a0 a1) (pianolalaw08_FlowParts.f (k + 1) a0 a1) := by
  intro a0 a1 k
  obtain ⟨ih0, ih1, ih2, ih3⟩ := pianolalaw08_FlowParts.mono_l k
  unfold pianolalaw08_FlowParts.f
  repeat' first
      | (with_reducible exact ih0 _ _ _)
      | (with_reducible exact ih1 _ _ _ _)
      | (with_reducible exact ih2 _ _ _ _)
      | (with_reducible exact ih3 _ _ _ _)
      | (with_reducible exact flow_Blocks.mono _ _ _)
      | (with_reducible exact LeO.refl _)
      | (with_reducible exact LeO.none _)
      | (with_reducible refine LeO.ite ?_ ?_)
      | (with_reducible refine LeO.bind ?_ (fun _ => ?_))
      | exact ih0 _ _ _
      | exact ih1 _ _ _ _
      | exact ih2 _ _ _ _
      | exact ih3 _ _ _ _
      | exact flow_Blocks.mono _ _ _
      | exact LeO.none _
      | refine LeO.ite ?_ ?_
      | refine LeO.bind ?_ (fun _ => ?_)
set_option maxHeartbeats 8000000 in
set_option maxRecDepth 100000 in
theorem pianolalaw08_FlowParts.calls (k : Nat) (A0 : Option Addr) (c0 : Nat) (l0 : List (S34)) (A1 : Option Addr) (c1 : Nat) (l1 : List Int) (r : Bool) (w : World) (hr0 : Kd.C k34 w A0 l0.length l0) (hc0 : l0.length ≤ c0) (hr1 : Kd.C (Kd.int .i64) w A1 l1.length l1) (hc1 : l1.length ≤ c1) (h : pianolalaw08_FlowParts.f k l0 l1 = some r) :
    Calls Try.prog 7 #[.slice A0 l0.length c0, .slice A1 l1.length c1] w fun e w' => e = .returned (.bool r) ∧ Below w.heap.size w w' := by
  have HR0 := Aside0.mk hr0
  have HC0 := Aside0.mk hc0
  clear hr0 hc0
  have HR1 := Aside0.mk hr1
  have HC1 := Aside0.mk hc1
  clear hr1 hc1
  have HB := Aside0.mk (Below.refl w.heap.size w)
  have H : (if (l0.length : Int) > 300 then ((pianolalaw08_lives.f).bind fun t306 => (some t306)) else ((flow_Blocks.f k l0 l1).bind fun bt307 => ((pianolalaw08_lives.f).bind fun t312 => (if t312 = true then (pianolalaw08_FlowParts.j0 k l0 bt307.1 (bt307.2.1 != 0)) else (pianolalaw08_FlowParts.j0 k l0 bt307.1 true))))) = some r := h
  clear h
  by_cases c3 : (l0.length : Int) > 300
  · rw [if_pos c3] at H
    have c3b0 : decide (300 < (l0.length : Int)) = true := decide_eq_true c3
    have c3b1 : decide (300 < l0.length) = true := decide_eq_true (by omega)
    clear c3
    replace H := Option.bind_eq_some_iff.mp H
    obtain ⟨t306, A40, H⟩ := H
    replace H : (some t306) = some r := H
    have A4 := Aside0.mk A40
    clear A40
    obtain rfl := Option.some.inj H
    go_enter Try.func7, Try.ntmps7
    go_wp2_with (first | ((with_reducible refine gate_callee (f := 13) rfl ?_); refine goesL_ (some 14) rfl rfl Try.func13 (by kernel_rfl) rfl #[] rfl (by (try simp only [List.map_toArray, List.map_cons, List.map_nil]); first | done | rfl | (simp only [List.length_drop, List.length_take]; rfl)) ?_; (with_reducible refine (pianolalaw08_lives.calls  t306 _ A4.out).mono ?_); rintro e w5 ⟨rfl, hb⟩; refine ⟨_, rfl, ?_⟩; have n0_ := Aside0.mk (below_step (by repeat (first | (with_reducible first | exact HB.out | apply below_alloc | apply pw_below_drewN | apply below_drew1) | exact HB.out)) hb); clear HB; have HB := n0_; clear n0_; (try clear hb); (try clear hb2); (try clear hk); (try clear hi)))
    go_ret
    exact ⟨by first | rfl | (simp [errW_none, errW_some] <;> rfl) | (simp [*, errW_none, errW_some] <;> rfl), by repeat (first | (with_reducible first | exact HB.out | apply below_alloc | apply pw_below_drewN | apply below_drew1) | exact HB.out)⟩
  · rw [if_neg c3] at H
    have c3b0 : decide (300 < (l0.length : Int)) = false := decide_eq_false c3
    have c3b1 : decide (300 < l0.length) = false := decide_eq_false (by omega)
    clear c3
    replace H := Option.bind_eq_some_iff.mp H
    obtain ⟨⟨t307, t308, t309⟩, A60, H⟩ := H
    replace H : ((pianolalaw08_lives.f).bind fun t312 => (if t312 = true then (pianolalaw08_FlowParts.j0 k l0 t307 (t308 != 0)) else (pianolalaw08_FlowParts.j0 k l0 t307 true))) = some r := H
    have A6 := Aside0.mk A60
    clear A60
    have HC7 := Aside0.mk H
    clear H
    go_enter Try.func7, Try.ntmps7
    go_upto_region 4 with (first | ((with_reducible refine gate_callee (f := 14) rfl ?_); refine goesL_ (some 18) rfl rfl Try.func14 (by kernel_rfl) rfl #[.slice A0 l0.length c0, .slice A1 l1.length c1] rfl (by (try simp only [List.map_toArray, List.map_cons, List.map_nil]); first | done | rfl | (simp only [List.length_drop, List.length_take]; rfl)) ?_; (with_reducible refine (flow_Blocks.calls k _ _ l0 _ _ l1 t307 t308 t309 _ ?side1 ?side2 ?side3 ?side4 A6.out).mono ?_); (case side1 => repeat (first | exact HR0.out | (with_reducible refine Kd.C_alloc ?_ _) | (with_reducible refine Kd.C_drewN ?_ _) | (with_reducible refine Kd.C_drew ?_))); (case side2 => exact HC0.out); (case side3 => repeat (first | exact HR1.out | (with_reducible refine Kd.C_alloc ?_ _) | (with_reducible refine Kd.C_drewN ?_ _) | (with_reducible refine Kd.C_drew ?_))); (case side4 => exact HC1.out); rintro e w8 ⟨v310, rfl, ho0, hb⟩; refine ⟨_, rfl, ?_⟩; have n0_ := Aside0.mk (Kd.S_lower ho0 (below_size (by repeat (first | (with_reducible first | exact HB.out | apply below_alloc | apply pw_below_drewN | apply below_drew1) | exact HB.out)))); have n1_ := Aside0.mk (below_step (by repeat (first | (with_reducible first | exact HB.out | apply below_alloc | apply pw_below_drewN | apply below_drew1) | exact HB.out)) hb); clear HB; have HO311 := n0_; have HB := n1_; clear n0_ n1_; (try clear hb); (try clear hb2); (try clear hk); (try clear hi); (try clear ho0)))
    (try simp only [Act.put, List.setIfInBounds_toArray, List.set_cons_zero, List.set_cons_succ])
    go_cut [27] (fun v27 wc => ∃ (kq : Nat) (x27_6 : Bool), v27 = .bool x27_6 ∧ Aside0 (pianolalaw08_FlowParts.j0 kq l0 t307 x27_6 = some r) ∧ Aside0 (kq ≤ k) ∧ Aside0 (Kd.S k30 30 wc w.heap.size (fun _ => True) v310 t307) ∧ Aside0 (Below w.heap.size w wc))
    case first =>
      have H := HC7.out
      clear HC7
      replace H := Option.bind_eq_some_iff.mp H
      obtain ⟨t312, A90, H⟩ := H
      replace H : (if t312 = true then (pianolalaw08_FlowParts.j0 k l0 t307 (t308 != 0)) else (pianolalaw08_FlowParts.j0 k l0 t307 true)) = some r := H
      have A9 := Aside0.mk A90
      clear A90
      by_cases c10 : t312 = true
      · subst c10
        have H1 : (pianolalaw08_FlowParts.j0 k l0 t307 (t308 != 0)) = some r := by rw [if_pos rfl] at H; exact H
        clear H
        have H := H1
        clear H1
        have H' := Aside0.mk H
        clear H
        go_wp2_with (first | ((with_reducible refine gate_callee (f := 13) rfl ?_); refine goesL_ (some 22) rfl rfl Try.func13 (by kernel_rfl) rfl #[] rfl (by (try simp only [List.map_toArray, List.map_cons, List.map_nil]); first | done | rfl | (simp only [List.length_drop, List.length_take]; rfl)) ?_; (with_reducible refine (pianolalaw08_lives.calls  true _ A9.out).mono ?_); rintro e w11 ⟨rfl, hb⟩; refine ⟨_, rfl, ?_⟩; have n0_ := Aside0.mk (Kd.S_below (by (with_reducible repeat (first | apply Kd.S_alloc | apply Kd.S_drewN | apply Kd.S_drew)); exact HO311.out) hb); have n1_ := Aside0.mk (below_step (by repeat (first | (with_reducible first | exact HB.out | apply below_alloc | apply pw_below_drewN | apply below_drew1) | exact HB.out)) hb); clear HO311; clear HB; have HO311 := n0_; have HB := n1_; clear n0_ n1_; (try clear hb); (try clear hb2); (try clear hk); (try clear hi)))
        go_meet
        case rel => exact ⟨_, ((t308 != 0)), (by first | rfl | (simp; done) | (simp [*]; done)), H', ⟨by first | omega | exact Nat.le_refl _⟩, ⟨by (with_reducible repeat (first | apply Kd.S_alloc | apply Kd.S_drewN | apply Kd.S_drew)); exact HO311.out⟩, ⟨by repeat (first | (with_reducible first | exact HB.out | apply below_alloc | apply pw_below_drewN | apply below_drew1) | exact HB.out)⟩⟩
      · replace c10 := Bool.eq_false_iff.mpr c10
        subst c10
        have H1 : (pianolalaw08_FlowParts.j0 k l0 t307 true) = some r := by rw [if_neg (show ¬ (false = true) by decide)] at H; exact H
        clear H
        have H := H1
        clear H1
        have H' := Aside0.mk H
        clear H
        go_wp2_with (first | ((with_reducible refine gate_callee (f := 13) rfl ?_); refine goesL_ (some 22) rfl rfl Try.func13 (by kernel_rfl) rfl #[] rfl (by (try simp only [List.map_toArray, List.map_cons, List.map_nil]); first | done | rfl | (simp only [List.length_drop, List.length_take]; rfl)) ?_; (with_reducible refine (pianolalaw08_lives.calls  false _ A9.out).mono ?_); rintro e w12 ⟨rfl, hb⟩; refine ⟨_, rfl, ?_⟩; have n0_ := Aside0.mk (Kd.S_below (by (with_reducible repeat (first | apply Kd.S_alloc | apply Kd.S_drewN | apply Kd.S_drew)); exact HO311.out) hb); have n1_ := Aside0.mk (below_step (by repeat (first | (with_reducible first | exact HB.out | apply below_alloc | apply pw_below_drewN | apply below_drew1) | exact HB.out)) hb); clear HO311; clear HB; have HO311 := n0_; have HB := n1_; clear n0_ n1_; (try clear hb); (try clear hb2); (try clear hk); (try clear hi)))
        go_meet
        case rel => exact ⟨_, (true), (by first | rfl | (simp; done) | (simp [*]; done)), H', ⟨by first | omega | exact Nat.le_refl _⟩, ⟨by (with_reducible repeat (first | apply Kd.S_alloc | apply Kd.S_drewN | apply Kd.S_drew)); exact HO311.out⟩, ⟨by repeat (first | (with_reducible first | exact HB.out | apply below_alloc | apply pw_below_drewN | apply below_drew1) | exact HB.out)⟩⟩
    case rest =>
      clear HC7
      try clear c1
      try clear p2
      try clear c3
      try clear c3b0
      try clear c3b1
      try clear c7
      try clear c10
      obtain ⟨kq, x27_6, rfl, HA, HJ6, HO_5, HB⟩ := hcut
      cases kq with
      | zero => exact absurd HA.out (by simp [pianolalaw08_FlowParts.j0])
      | succ kj6 =>
        have H := HA.out
        clear HA
        simp only [pianolalaw08_FlowParts.j0] at H
        by_cases c13 : x27_6 = true
        · subst c13
          have H1 : ((pianolalaw08_lives.f).bind fun t313 => (some t313)) = some r := by rw [if_pos rfl] at H; exact H
          clear H
          have H := H1
          clear H1
          replace H := Option.bind_eq_some_iff.mp H
          obtain ⟨t313, A140, H⟩ := H
          replace H : (some t313) = some r := H
          have A14 := Aside0.mk A140
          clear A140
          obtain rfl := Option.some.inj H
          go_wp2_with (first | ((with_reducible refine gate_callee (f := 13) rfl ?_); refine goesL_ (some 28) rfl rfl Try.func13 (by kernel_rfl) rfl #[] rfl (by (try simp only [List.map_toArray, List.map_cons, List.map_nil]); first | done | rfl | (simp only [List.length_drop, List.length_take]; rfl)) ?_; (with_reducible refine (pianolalaw08_lives.calls  t313 _ A14.out).mono ?_); rintro e w15 ⟨rfl, hb⟩; refine ⟨_, rfl, ?_⟩; have n0_ := Aside0.mk (Kd.S_below (by (with_reducible repeat (first | apply Kd.S_alloc | apply Kd.S_drewN | apply Kd.S_drew)); exact HO_5.out) hb); have n1_ := Aside0.mk (below_step (by repeat (first | (with_reducible first | exact HB.out | apply below_alloc | apply pw_below_drewN | apply below_drew1) | exact HB.out)) hb); clear HO_5; clear HB; have HO_5 := n0_; have HB := n1_; clear n0_ n1_; (try clear hb); (try clear hb2); (try clear hk); (try clear hi)))
          go_ret
          exact ⟨by first | rfl | (simp [errW_none, errW_some] <;> rfl) | (simp [*, errW_none, errW_some] <;> rfl), by repeat (first | (with_reducible first | exact HB.out | apply below_alloc | apply pw_below_drewN | apply below_drew1) | exact HB.out)⟩
        · replace c13 := Bool.eq_false_iff.mpr c13
          subst c13
          have H1 : (pianolalaw08_FlowParts.l0 kj6 l0 t307 0 0) = some r := by rw [if_neg (show ¬ (false = true) by decide)] at H; exact H
          clear H
          have H := H1
          clear H1
          have H' := Aside0.mk H
          clear H
          go_wp2
          go_loopg [8, 9] kj6 (fun kq v8 v9 w' => ∃ (x8_2 : Int) (x9_2 : Int), v8 = .int .i64 x8_2 ∧ v9 = .int .i64 x9_2 ∧ Aside0 (pianolalaw08_FlowParts.l0 kq l0 t307 x8_2 x9_2 = some r) ∧ Aside0 (kq ≤ kj6) ∧ Aside0 (Kd.S k30 30 w' w.heap.size (fun _ => True) v310 t307) ∧ Aside0 (Below w.heap.size w w'))
          case atStart => exact ⟨(0), (0), (by first | rfl | (simp; done) | (simp [*]; done)), (by first | rfl | (simp; done) | (simp [*]; done)), H', ⟨Nat.le_refl _⟩, ⟨by (with_reducible repeat (first | apply Kd.S_alloc | apply Kd.S_drewN | apply Kd.S_drew)); exact HO_5.out⟩, ⟨by repeat (first | (with_reducible first | exact HB.out | apply below_alloc | apply pw_below_drewN | apply below_drew1) | exact HB.out)⟩⟩
          case round =>
            clear H'
            try clear c1
            try clear p2
            try clear c3
            try clear c3b0
            try clear c3b1
            try clear c7
            try clear c10
            try clear c13
            try clear c14
            try clear p2
            obtain ⟨x8_2, x9_2, rfl, rfl, HA, HK2, HO_5, HB⟩ := hrel
            cases gk with
            | zero => exact absurd HA.out (by simp [pianolalaw08_FlowParts.l0])
            | succ k2 =>
              have H := HA.out
              clear HA
              simp only [pianolalaw08_FlowParts.l0] at H
              by_cases c16 : x9_2 < (t307.length : Int)
              · rw [if_pos c16] at H
                have c16b0 : decide (x9_2 < (t307.length : Int)) = true := decide_eq_true c16
                clear c16
                have HC17 := Aside0.mk H
                clear H
                obtain ⟨Ao18, co18, eo18⟩ := Kd.S_slice HO_5.out
                subst eo18
                go_upto_region 10 with (fail)
                go_cut [60] (fun v60 wc => ∃ (kq : Nat) (x60_16 : Bool), v60 = .bool x60_16 ∧ Aside0 (pianolalaw08_FlowParts.j2 kq l0 t307 x9_2 x60_16 = some r) ∧ Aside0 (kq ≤ k2) ∧ Aside0 (Kd.S k30 30 wc w.heap.size (fun _ => True) (.slice Ao18 t307.length co18) t307) ∧ Aside0 (Below w.heap.size w wc))
                case first =>
                  have H := HC17.out
                  clear HC17
                  by_cases c19 : 0 ≤ x9_2
                  · rw [if_pos c19] at H
                    have c19b0 : decide (0 ≤ x9_2) = true := decide_eq_true c19
                    clear c19
                    (first | rw [c19b0] | (simp only [i64_w, i32_w]; rw [c19b0]) | skip)
                    by_cases c20 : ((rd_T30 t307 x9_2).f0) = x8_2
                    · rw [if_pos c20] at H
                      have c20b0 : (((rd_T30 t307 x9_2).f0) == x8_2) = true := beq_iff_eq.mpr c20
                      have c20b1 : (((rd_T30 t307 x9_2).f0) != x8_2) = false := bne_eq_false_iff_eq.mpr c20
                      clear c20
                      by_cases c21 : ((rd_T30 t307 x9_2).f1) ≤ x8_2
                      · rw [if_pos c21] at H
                        have c21b0 : decide (((rd_T30 t307 x9_2).f1) ≤ x8_2) = true := decide_eq_true c21
                        clear c21
                        have H' := Aside0.mk H
                        clear H
                        have p314 : 0 ≤ (x9_2 : Int) := of_decide_eq_true (by first | (with_reducible assumption) | assumption)
                        have q314 : x9_2 < (t307.length : Int) := of_decide_eq_true (by first | (with_reducible assumption) | assumption)
                        obtain ⟨ad314, A314_2, c314_2, e314, hx314_0, hx314_1, hx314_2, hl314_2, hi314_2⟩ := at_T30 (Kd.S_reads' HO_5.out).2.2 x9_2 p314 q314
                        cases e314
                        obtain ⟨ce314, hce314, hMe314, hcc314⟩ := Kd.S_get HO_5.out z30 x9_2 p314 (by first | exact q314 | exact of_decide_eq_true (by first | (with_reducible assumption) | assumption) | (have e_ := (Kd.S_reads' HO_5.out).1; omega))
                        obtain ⟨ve314_2, rfl, ge314_2⟩ := k30_openM hMe314
                        have hv314_2 := hcc314 2 _ rfl
                        rw [add_field _ _ 2 (by omega)] at hv314_2
                        replace hv314_2 := Option.some.inj (hv314_2.symm.trans hx314_2)
                        rw [hv314_2] at ge314_2
                        have HL314_2 := Aside0.mk (show Kd.R (Kd.int .i64) 3 _ _ _ _ ((rd_T30 t307 x9_2).f2) from ge314_2)
                        clear hv314_2 ge314_2
                        clear hcc314 hce314
                        have HR314_2 := Aside0.mk hi314_2
                        have HC314_2 := Aside0.mk hl314_2
                        clear hi314_2 hl314_2
                        replace p314 := eq_true p314
                        replace q314 := eq_true q314
                        have p315 : 0 ≤ (x9_2 : Int) := of_decide_eq_true (by first | (with_reducible assumption) | assumption)
                        have q315 : x9_2 < (t307.length : Int) := of_decide_eq_true (by first | (with_reducible assumption) | assumption)
                        obtain ⟨ad315, A315_2, c315_2, e315, hx315_0, hx315_1, hx315_2, hl315_2, hi315_2⟩ := at_T30 (Kd.S_reads' HO_5.out).2.2 x9_2 p315 q315
                        obtain rfl : ad314 = ad315 := (by injection e315)
                        obtain ⟨ce315, hce315, hMe315, hcc315⟩ := Kd.S_get HO_5.out z30 x9_2 p315 (by first | exact q315 | exact of_decide_eq_true (by first | (with_reducible assumption) | assumption) | (have e_ := (Kd.S_reads' HO_5.out).1; omega))
                        obtain ⟨ve315_2, rfl, ge315_2⟩ := k30_openM hMe315
                        have hv315_2 := hcc315 2 _ rfl
                        rw [add_field _ _ 2 (by omega)] at hv315_2
                        replace hv315_2 := Option.some.inj (hv315_2.symm.trans hx315_2)
                        rw [hv315_2] at ge315_2
                        have HL315_2 := Aside0.mk (show Kd.R (Kd.int .i64) 3 _ _ _ _ ((rd_T30 t307 x9_2).f2) from ge315_2)
                        clear hv315_2 ge315_2
                        clear hcc315 hce315
                        have HR315_2 := Aside0.mk hi315_2
                        have HC315_2 := Aside0.mk hl315_2
                        clear hi315_2 hl315_2
                        replace p315 := eq_true p315
                        replace q315 := eq_true q315
                        have ea_ := Option.some.inj (hx314_2.symm.trans hx315_2)
                        injection ea_ with ea_ en_ ec_
                        subst ea_
                        subst ec_
                        clear en_
                        go_wp2
                        go_meet
                        case rel => exact ⟨_, (true), (by first | rfl | (simp; done) | (simp [*]; done)), H', ⟨by have := HJ6.out; have := HK2.out; first | omega | exact Nat.le_refl _⟩, ⟨by (with_reducible repeat (first | apply Kd.S_alloc | apply Kd.S_drewN | apply Kd.S_drew)); exact HO_5.out⟩, ⟨by repeat (first | (with_reducible first | exact HB.out | apply below_alloc | apply pw_below_drewN | apply below_drew1) | exact HB.out)⟩⟩
                      · rw [if_neg c21] at H
                        have c21b0 : decide (((rd_T30 t307 x9_2).f1) ≤ x8_2) = false := decide_eq_false c21
                        clear c21
                        have H' := Aside0.mk H
                        clear H
                        have p314 : 0 ≤ (x9_2 : Int) := of_decide_eq_true (by first | (with_reducible assumption) | assumption)
                        have q314 : x9_2 < (t307.length : Int) := of_decide_eq_true (by first | (with_reducible assumption) | assumption)
                        obtain ⟨ad314, A314_2, c314_2, e314, hx314_0, hx314_1, hx314_2, hl314_2, hi314_2⟩ := at_T30 (Kd.S_reads' HO_5.out).2.2 x9_2 p314 q314
                        cases e314
                        obtain ⟨ce314, hce314, hMe314, hcc314⟩ := Kd.S_get HO_5.out z30 x9_2 p314 (by first | exact q314 | exact of_decide_eq_true (by first | (with_reducible assumption) | assumption) | (have e_ := (Kd.S_reads' HO_5.out).1; omega))
                        obtain ⟨ve314_2, rfl, ge314_2⟩ := k30_openM hMe314
                        have hv314_2 := hcc314 2 _ rfl
                        rw [add_field _ _ 2 (by omega)] at hv314_2
                        replace hv314_2 := Option.some.inj (hv314_2.symm.trans hx314_2)
                        rw [hv314_2] at ge314_2
                        have HL314_2 := Aside0.mk (show Kd.R (Kd.int .i64) 3 _ _ _ _ ((rd_T30 t307 x9_2).f2) from ge314_2)
                        clear hv314_2 ge314_2
                        clear hcc314 hce314
                        have HR314_2 := Aside0.mk hi314_2
                        have HC314_2 := Aside0.mk hl314_2
                        clear hi314_2 hl314_2
                        replace p314 := eq_true p314
                        replace q314 := eq_true q314
                        have p315 : 0 ≤ (x9_2 : Int) := of_decide_eq_true (by first | (with_reducible assumption) | assumption)
                        have q315 : x9_2 < (t307.length : Int) := of_decide_eq_true (by first | (with_reducible assumption) | assumption)
                        obtain ⟨ad315, A315_2, c315_2, e315, hx315_0, hx315_1, hx315_2, hl315_2, hi315_2⟩ := at_T30 (Kd.S_reads' HO_5.out).2.2 x9_2 p315 q315
                        obtain rfl : ad314 = ad315 := (by injection e315)
                        obtain ⟨ce315, hce315, hMe315, hcc315⟩ := Kd.S_get HO_5.out z30 x9_2 p315 (by first | exact q315 | exact of_decide_eq_true (by first | (with_reducible assumption) | assumption) | (have e_ := (Kd.S_reads' HO_5.out).1; omega))
                        obtain ⟨ve315_2, rfl, ge315_2⟩ := k30_openM hMe315
                        have hv315_2 := hcc315 2 _ rfl
                        rw [add_field _ _ 2 (by omega)] at hv315_2
                        replace hv315_2 := Option.some.inj (hv315_2.symm.trans hx315_2)
                        rw [hv315_2] at ge315_2
                        have HL315_2 := Aside0.mk (show Kd.R (Kd.int .i64) 3 _ _ _ _ ((rd_T30 t307 x9_2).f2) from ge315_2)
                        clear hv315_2 ge315_2
                        clear hcc315 hce315
                        have HR315_2 := Aside0.mk hi315_2
                        have HC315_2 := Aside0.mk hl315_2
                        clear hi315_2 hl315_2
                        replace p315 := eq_true p315
                        replace q315 := eq_true q315
                        have ea_ := Option.some.inj (hx314_2.symm.trans hx315_2)
                        injection ea_ with ea_ en_ ec_
                        subst ea_
                        subst ec_
                        clear en_
                        have p316 : 0 ≤ (x9_2 : Int) := of_decide_eq_true (by first | (with_reducible assumption) | assumption)
                        have q316 : x9_2 < (t307.length : Int) := of_decide_eq_true (by first | (with_reducible assumption) | assumption)
                        obtain ⟨ad316, A316_2, c316_2, e316, hx316_0, hx316_1, hx316_2, hl316_2, hi316_2⟩ := at_T30 (Kd.S_reads' HO_5.out).2.2 x9_2 p316 q316
                        obtain rfl : ad314 = ad316 := (by injection e316)
                        obtain ⟨ce316, hce316, hMe316, hcc316⟩ := Kd.S_get HO_5.out z30 x9_2 p316 (by first | exact q316 | exact of_decide_eq_true (by first | (with_reducible assumption) | assumption) | (have e_ := (Kd.S_reads' HO_5.out).1; omega))
                        obtain ⟨ve316_2, rfl, ge316_2⟩ := k30_openM hMe316
                        have hv316_2 := hcc316 2 _ rfl
                        rw [add_field _ _ 2 (by omega)] at hv316_2
                        replace hv316_2 := Option.some.inj (hv316_2.symm.trans hx316_2)
                        rw [hv316_2] at ge316_2
                        have HL316_2 := Aside0.mk (show Kd.R (Kd.int .i64) 3 _ _ _ _ ((rd_T30 t307 x9_2).f2) from ge316_2)
                        clear hv316_2 ge316_2
                        clear hcc316 hce316
                        have HR316_2 := Aside0.mk hi316_2
                        have HC316_2 := Aside0.mk hl316_2
                        clear hi316_2 hl316_2
                        replace p316 := eq_true p316
                        replace q316 := eq_true q316
                        have ea_ := Option.some.inj (hx314_2.symm.trans hx316_2)
                        injection ea_ with ea_ en_ ec_
                        subst ea_
                        subst ec_
                        clear en_
                        go_wp2
                        go_meet
                        case rel => exact ⟨_, (decide (((rd_T30 t307 x9_2).f1) > (l0.length : Int))), (by first | rfl | (simp; done) | (simp [*]; done)), H', ⟨by have := HJ6.out; have := HK2.out; first | omega | exact Nat.le_refl _⟩, ⟨by (with_reducible repeat (first | apply Kd.S_alloc | apply Kd.S_drewN | apply Kd.S_drew)); exact HO_5.out⟩, ⟨by repeat (first | (with_reducible first | exact HB.out | apply below_alloc | apply pw_below_drewN | apply below_drew1) | exact HB.out)⟩⟩
                    · rw [if_neg c20] at H
                      have c20b0 : (((rd_T30 t307 x9_2).f0) == x8_2) = false := beq_eq_false_iff_ne.mpr c20
                      have c20b1 : (((rd_T30 t307 x9_2).f0) != x8_2) = true := bne_iff_ne.mpr c20
                      have H' := Aside0.mk H
                      clear H
                      have p314 : 0 ≤ (x9_2 : Int) := of_decide_eq_true (by first | (with_reducible assumption) | assumption)
                      have q314 : x9_2 < (t307.length : Int) := of_decide_eq_true (by first | (with_reducible assumption) | assumption)
                      obtain ⟨ad314, A314_2, c314_2, e314, hx314_0, hx314_1, hx314_2, hl314_2, hi314_2⟩ := at_T30 (Kd.S_reads' HO_5.out).2.2 x9_2 p314 q314
                      cases e314
                      obtain ⟨ce314, hce314, hMe314, hcc314⟩ := Kd.S_get HO_5.out z30 x9_2 p314 (by first | exact q314 | exact of_decide_eq_true (by first | (with_reducible assumption) | assumption) | (have e_ := (Kd.S_reads' HO_5.out).1; omega))
                      obtain ⟨ve314_2, rfl, ge314_2⟩ := k30_openM hMe314
                      have hv314_2 := hcc314 2 _ rfl
                      rw [add_field _ _ 2 (by omega)] at hv314_2
                      replace hv314_2 := Option.some.inj (hv314_2.symm.trans hx314_2)
                      rw [hv314_2] at ge314_2
                      have HL314_2 := Aside0.mk (show Kd.R (Kd.int .i64) 3 _ _ _ _ ((rd_T30 t307 x9_2).f2) from ge314_2)
                      clear hv314_2 ge314_2
                      clear hcc314 hce314
                      have HR314_2 := Aside0.mk hi314_2
                      have HC314_2 := Aside0.mk hl314_2
                      clear hi314_2 hl314_2
                      replace p314 := eq_true p314
                      replace q314 := eq_true q314
                      go_wp2
                      go_meet
                      case rel => exact ⟨_, (true), (by first | rfl | (simp; done) | (simp [*]; done)), H', ⟨by have := HJ6.out; have := HK2.out; first | omega | exact Nat.le_refl _⟩, ⟨by (with_reducible repeat (first | apply Kd.S_alloc | apply Kd.S_drewN | apply Kd.S_drew)); exact HO_5.out⟩, ⟨by repeat (first | (with_reducible first | exact HB.out | apply below_alloc | apply pw_below_drewN | apply below_drew1) | exact HB.out)⟩⟩
                  · rw [if_neg c19] at H
                    exact absurd H (by simp)
                case rest =>
                  clear HC17
                  try clear c1
                  try clear c2
                  try clear p2
                  try clear c3
                  try clear c3b0
                  try clear c3b1
                  try clear p3
                  try clear q3
                  try clear hx3
                  try clear c7
                  try clear c10
                  try clear c13
                  try clear c14
                  try clear c16
                  try clear c16b0
                  try clear c19
                  try clear c19b0
                  try clear c20
                  try clear c20b0
                  try clear c20b1
                  try clear c21
                  try clear c21b0
                  try clear hx314_0
                  try clear hx314_1
                  try clear hx314_2
                  try clear hx315_0
                  try clear hx315_1
                  try clear hx315_2
                  try clear hx316_0
                  try clear hx316_1
                  try clear hx316_2
                  try clear p2
                  try clear p314
                  try clear p315
                  try clear p316
                  try clear q314
                  try clear q315
                  try clear q316
                  obtain ⟨kq, x60_16, rfl, HA, HJ16, HO_5, HB⟩ := hcut
                  cases kq with
                  | zero => exact absurd HA.out (by simp [pianolalaw08_FlowParts.j2])
                  | succ kj16 =>
                    have H := HA.out
                    clear HA
                    simp only [pianolalaw08_FlowParts.j2] at H
                    by_cases c22 : x60_16 = true
                    · subst c22
                      have H1 : (some false) = some r := by rw [if_pos rfl] at H; exact H
                      clear H
                      have H := H1
                      clear H1
                      obtain rfl := Option.some.inj H
                      go_wp2
                      go_ret
                      exact ⟨by first | rfl | (simp [errW_none, errW_some] <;> rfl) | (simp [*, errW_none, errW_some] <;> rfl), by repeat (first | (with_reducible first | exact HB.out | apply below_alloc | apply pw_below_drewN | apply below_drew1) | exact HB.out)⟩
                    · replace c22 := Bool.eq_false_iff.mpr c22
                      subst c22
                      have H1 : (if 0 ≤ x9_2 then (if x9_2 < (t307.length : Int) then (pianolalaw08_FlowParts.l1 kj16 l0 t307 x9_2 ((rd_T30 t307 x9_2).f0)) else (none)) else (none)) = some r := by rw [if_neg (show ¬ (false = true) by decide)] at H; exact H
                      clear H
                      have H := H1
                      clear H1
                      by_cases c23 : 0 ≤ x9_2
                      · rw [if_pos c23] at H
                        have c23b0 : decide (0 ≤ x9_2) = true := decide_eq_true c23
                        clear c23
                        by_cases c24 : x9_2 < (t307.length : Int)
                        · rw [if_pos c24] at H
                          have c24b0 : decide (x9_2 < (t307.length : Int)) = true := decide_eq_true c24
                          clear c24
                          have H' := Aside0.mk H
                          clear H
                          have p317 : 0 ≤ (x9_2 : Int) := of_decide_eq_true (by first | (with_reducible assumption) | assumption)
                          have q317 : x9_2 < (t307.length : Int) := of_decide_eq_true (by first | (with_reducible assumption) | assumption)
                          obtain ⟨ad317, A317_2, c317_2, e317, hx317_0, hx317_1, hx317_2, hl317_2, hi317_2⟩ := at_T30 (Kd.S_reads' HO_5.out).2.2 x9_2 p317 q317
                          cases e317
                          obtain ⟨ce317, hce317, hMe317, hcc317⟩ := Kd.S_get HO_5.out z30 x9_2 p317 (by first | exact q317 | exact of_decide_eq_true (by first | (with_reducible assumption) | assumption) | (have e_ := (Kd.S_reads' HO_5.out).1; omega))
                          obtain ⟨ve317_2, rfl, ge317_2⟩ := k30_openM hMe317
                          have hv317_2 := hcc317 2 _ rfl
                          rw [add_field _ _ 2 (by omega)] at hv317_2
                          replace hv317_2 := Option.some.inj (hv317_2.symm.trans hx317_2)
                          rw [hv317_2] at ge317_2
                          have HL317_2 := Aside0.mk (show Kd.R (Kd.int .i64) 3 _ _ _ _ ((rd_T30 t307 x9_2).f2) from ge317_2)
                          clear hv317_2 ge317_2
                          clear hcc317 hce317
                          have HR317_2 := Aside0.mk hi317_2
                          have HC317_2 := Aside0.mk hl317_2
                          clear hi317_2 hl317_2
                          replace p317 := eq_true p317
                          replace q317 := eq_true q317
                          go_wp2
                          go_loopg [10] kj16 (fun kq v10 w' => ∃ (x10_4 : Int), v10 = .int .i64 x10_4 ∧ Aside0 (pianolalaw08_FlowParts.l1 kq l0 t307 x9_2 x10_4 = some r) ∧ Aside0 (kq ≤ kj16) ∧ Aside0 (Kd.S k30 30 w' w.heap.size (fun _ => True) (.slice (some ad317) t307.length co18) t307) ∧ Aside0 (Kd.C (Kd.int .i64) w' A317_2 ((rd_T30 t307 x9_2).f2).length ((rd_T30 t307 x9_2).f2)) ∧ Aside0 (Below w.heap.size w w'))
                          case atStart => exact ⟨((rd_T30 t307 x9_2).f0), (by first | rfl | (simp; done) | (simp [*]; done)), H', ⟨Nat.le_refl _⟩, ⟨by (with_reducible repeat (first | apply Kd.S_alloc | apply Kd.S_drewN | apply Kd.S_drew)); exact HO_5.out⟩, ⟨by repeat (first | (with_reducible exact HR317_2.out) | (with_reducible refine Kd.C_alloc ?_ _) | (with_reducible refine Kd.C_drewN ?_ _) | (with_reducible refine Kd.C_drew ?_) | exact HR317_2.out)⟩, ⟨by repeat (first | (with_reducible first | exact HB.out | apply below_alloc | apply pw_below_drewN | apply below_drew1) | exact HB.out)⟩⟩
                          case round =>
                            clear H'
                            try clear c1
                            try clear c2
                            try clear p2
                            try clear c3
                            try clear c3b0
                            try clear c3b1
                            try clear p3
                            try clear q3
                            try clear hx3
                            try clear c7
                            try clear c10
                            try clear c13
                            try clear c14
                            try clear c16
                            try clear c16b0
                            try clear c19
                            try clear c19b0
                            try clear c20
                            try clear c20b0
                            try clear c20b1
                            try clear c21
                            try clear c21b0
                            try clear c22
                            try clear c23
                            try clear c23b0
                            try clear c24
                            try clear c24b0
                            try clear hx314_0
                            try clear hx314_1
                            try clear hx314_2
                            try clear hx315_0
                            try clear hx315_1
                            try clear hx315_2
                            try clear hx316_0
                            try clear hx316_1
                            try clear hx316_2
                            try clear hx317_0
                            try clear hx317_1
                            try clear hx317_2
                            try clear p2
                            try clear p3
                            try clear p314
                            try clear p315
                            try clear p316
                            try clear p317
                            try clear q3
                            try clear q314
                            try clear q315
                            try clear q316
                            try clear q317
                            obtain ⟨x10_4, rfl, HA, HK4, HO_5, HR317_2, HB⟩ := hrel
                            cases gk with
                            | zero => exact absurd HA.out (by simp [pianolalaw08_FlowParts.l1])
                            | succ k4 =>
                              have H := HA.out
                              clear HA
                              simp only [pianolalaw08_FlowParts.l1] at H
                              by_cases c25 : 0 ≤ x9_2
                              · rw [if_pos c25] at H
                                have c25b0 : decide (0 ≤ x9_2) = true := decide_eq_true c25
                                clear c25
                                by_cases c26 : x9_2 < (t307.length : Int)
                                · rw [if_pos c26] at H
                                  have c26b0 : decide (x9_2 < (t307.length : Int)) = true := decide_eq_true c26
                                  clear c26
                                  by_cases c27 : x10_4 < (wrap64 (((rd_T30 t307 x9_2).f1) - 1))
                                  · rw [if_pos c27] at H
                                    have c27b0 : decide (x10_4 < (wrap64 (((rd_T30 t307 x9_2).f1) - 1))) = true := decide_eq_true c27
                                    clear c27
                                    by_cases c28 : 0 ≤ x10_4
                                    · rw [if_pos c28] at H
                                      have c28b0 : decide (0 ≤ x10_4) = true := decide_eq_true c28
                                      clear c28
                                      by_cases c29 : x10_4 < (l0.length : Int)
                                      · rw [if_pos c29] at H
                                        have c29b0 : decide (x10_4 < (l0.length : Int)) = true := decide_eq_true c29
                                        clear c29
                                        replace H := Option.bind_eq_some_iff.mp H
                                        obtain ⟨t320, A300, H⟩ := H
                                        replace H : (if t320 = true then (some false) else (pianolalaw08_FlowParts.l1 k4 l0 t307 x9_2 (wrap64 (x10_4 + 1)))) = some r := H
                                        have A30 := Aside0.mk A300
                                        clear A300
                                        by_cases c31 : t320 = true
                                        · subst c31
                                          have H1 : (some false) = some r := by rw [if_pos rfl] at H; exact H
                                          clear H
                                          have H := H1
                                          clear H1
                                          obtain rfl := Option.some.inj H
                                          have p318 : 0 ≤ (x9_2 : Int) := of_decide_eq_true (by first | (with_reducible assumption) | assumption)
                                          have q318 : x9_2 < (t307.length : Int) := of_decide_eq_true (by first | (with_reducible assumption) | assumption)
                                          obtain ⟨ad318, A318_2, c318_2, e318, hx318_0, hx318_1, hx318_2, hl318_2, hi318_2⟩ := at_T30 (Kd.S_reads' HO_5.out).2.2 x9_2 p318 q318
                                          obtain rfl : ad317 = ad318 := (by injection e318)
                                          obtain ⟨ce318, hce318, hMe318, hcc318⟩ := Kd.S_get HO_5.out z30 x9_2 p318 (by first | exact q318 | exact of_decide_eq_true (by first | (with_reducible assumption) | assumption) | (have e_ := (Kd.S_reads' HO_5.out).1; omega))
                                          obtain ⟨ve318_2, rfl, ge318_2⟩ := k30_openM hMe318
                                          have hv318_2 := hcc318 2 _ rfl
                                          rw [add_field _ _ 2 (by omega)] at hv318_2
                                          replace hv318_2 := Option.some.inj (hv318_2.symm.trans hx318_2)
                                          rw [hv318_2] at ge318_2
                                          have HL318_2 := Aside0.mk (show Kd.R (Kd.int .i64) 3 _ _ _ _ ((rd_T30 t307 x9_2).f2) from ge318_2)
                                          clear hv318_2 ge318_2
                                          clear hcc318 hce318
                                          have HR318_2 := Aside0.mk hi318_2
                                          have HC318_2 := Aside0.mk hl318_2
                                          clear hi318_2 hl318_2
                                          replace p318 := eq_true p318
                                          replace q318 := eq_true q318
                                          have p319 : 0 ≤ (x10_4 : Int) := of_decide_eq_true (by first | (with_reducible assumption) | assumption)
                                          have q319 : x10_4 < (l0.length : Int) := of_decide_eq_true (by first | (with_reducible assumption) | assumption)
                                          obtain ⟨ad319, e319, hx319_0, hx319_1⟩ := at_T34 HR0.out x10_4 p319 q319
                                          cases e319
                                          replace hx319_0 := (HB.out.cell (World.block_lt_of_cell? w _ hx319_0)).trans hx319_0
                                          replace hx319_1 := (HB.out.cell (World.block_lt_of_cell? w _ hx319_1)).trans hx319_1
                                          replace p319 := eq_true p319
                                          replace q319 := eq_true q319
                                          go_wp2_with (first | ((with_reducible refine gate_callee (f := 18) rfl ?_); refine goesL_ (some 81) rfl rfl Try.func18 (by kernel_rfl) rfl #[.int .i64 ((rd_T34 l0 x10_4).f0)] rfl (by (try simp only [List.map_toArray, List.map_cons, List.map_nil]); first | done | rfl | (simp only [List.length_drop, List.length_take]; rfl)) ?_; (with_reducible refine (pianolaref08_Ends.calls ((rd_T34 l0 x10_4).f0) true _ A30.out).mono ?_); rintro e w' ⟨rfl, ⟨nd, rfl⟩⟩; refine ⟨_, rfl, ?_⟩))
                                          go_ret
                                          exact ⟨by first | rfl | (simp [errW_none, errW_some] <;> rfl) | (simp [*, errW_none, errW_some] <;> rfl), by repeat (first | (with_reducible first | exact HB.out | apply below_alloc | apply pw_below_drewN | apply below_drew1) | exact HB.out)⟩
                                        · replace c31 := Bool.eq_false_iff.mpr c31
                                          subst c31
                                          have H1 : (pianolalaw08_FlowParts.l1 k4 l0 t307 x9_2 (wrap64 (x10_4 + 1))) = some r := by rw [if_neg (show ¬ (false = true) by decide)] at H; exact H
                                          clear H
                                          have H := H1
                                          clear H1
                                          have H' := Aside0.mk H
                                          clear H
                                          have p318 : 0 ≤ (x9_2 : Int) := of_decide_eq_true (by first | (with_reducible assumption) | assumption)
                                          have q318 : x9_2 < (t307.length : Int) := of_decide_eq_true (by first | (with_reducible assumption) | assumption)
                                          obtain ⟨ad318, A318_2, c318_2, e318, hx318_0, hx318_1, hx318_2, hl318_2, hi318_2⟩ := at_T30 (Kd.S_reads' HO_5.out).2.2 x9_2 p318 q318
                                          obtain rfl : ad317 = ad318 := (by injection e318)
                                          obtain ⟨ce318, hce318, hMe318, hcc318⟩ := Kd.S_get HO_5.out z30 x9_2 p318 (by first | exact q318 | exact of_decide_eq_true (by first | (with_reducible assumption) | assumption) | (have e_ := (Kd.S_reads' HO_5.out).1; omega))
                                          obtain ⟨ve318_2, rfl, ge318_2⟩ := k30_openM hMe318
                                          have hv318_2 := hcc318 2 _ rfl
                                          rw [add_field _ _ 2 (by omega)] at hv318_2
                                          replace hv318_2 := Option.some.inj (hv318_2.symm.trans hx318_2)
                                          rw [hv318_2] at ge318_2
                                          have HL318_2 := Aside0.mk (show Kd.R (Kd.int .i64) 3 _ _ _ _ ((rd_T30 t307 x9_2).f2) from ge318_2)
                                          clear hv318_2 ge318_2
                                          clear hcc318 hce318
                                          have HR318_2 := Aside0.mk hi318_2
                                          have HC318_2 := Aside0.mk hl318_2
                                          clear hi318_2 hl318_2
                                          replace p318 := eq_true p318
                                          replace q318 := eq_true q318
                                          have p319 : 0 ≤ (x10_4 : Int) := of_decide_eq_true (by first | (with_reducible assumption) | assumption)
                                          have q319 : x10_4 < (l0.length : Int) := of_decide_eq_true (by first | (with_reducible assumption) | assumption)
                                          obtain ⟨ad319, e319, hx319_0, hx319_1⟩ := at_T34 HR0.out x10_4 p319 q319
                                          cases e319
                                          replace hx319_0 := (HB.out.cell (World.block_lt_of_cell? w _ hx319_0)).trans hx319_0
                                          replace hx319_1 := (HB.out.cell (World.block_lt_of_cell? w _ hx319_1)).trans hx319_1
                                          replace p319 := eq_true p319
                                          replace q319 := eq_true q319
                                          go_wp2_with (first | ((with_reducible refine gate_callee (f := 18) rfl ?_); refine goesL_ (some 81) rfl rfl Try.func18 (by kernel_rfl) rfl #[.int .i64 ((rd_T34 l0 x10_4).f0)] rfl (by (try simp only [List.map_toArray, List.map_cons, List.map_nil]); first | done | rfl | (simp only [List.length_drop, List.length_take]; rfl)) ?_; (with_reducible refine (pianolaref08_Ends.calls ((rd_T34 l0 x10_4).f0) false _ A30.out).mono ?_); rintro e w' ⟨rfl, ⟨nd, rfl⟩⟩; refine ⟨_, rfl, ?_⟩))
                                          go_roundg k4
                                          case measure => have := HJ6.out; have := HK2.out; have := HJ16.out; have := HK4.out; omega
                                          case rel => exact ⟨(wrap64 (x10_4 + 1)), (by first | rfl | (simp; done) | (simp [*]; done)), H', ⟨by have := HJ6.out; have := HK2.out; have := HJ16.out; have := HK4.out; omega⟩, ⟨by (with_reducible repeat (first | apply Kd.S_alloc | apply Kd.S_drewN | apply Kd.S_drew)); exact HO_5.out⟩, ⟨by repeat (first | (with_reducible exact HR317_2.out) | (with_reducible refine Kd.C_alloc ?_ _) | (with_reducible refine Kd.C_drewN ?_ _) | (with_reducible refine Kd.C_drew ?_) | exact HR317_2.out)⟩, ⟨by repeat (first | (with_reducible first | exact HB.out | apply below_alloc | apply pw_below_drewN | apply below_drew1) | exact HB.out)⟩⟩
                                      · rw [if_neg c29] at H
                                        exact absurd H (by simp)
                                    · rw [if_neg c28] at H
                                      exact absurd H (by simp)
                                  · rw [if_neg c27] at H
                                    have c27b0 : decide (x10_4 < (wrap64 (((rd_T30 t307 x9_2).f1) - 1))) = false := decide_eq_false c27
                                    clear c27
                                    have H' := Aside0.mk H
                                    clear H
                                    have p318 : 0 ≤ (x9_2 : Int) := of_decide_eq_true (by first | (with_reducible assumption) | assumption)
                                    have q318 : x9_2 < (t307.length : Int) := of_decide_eq_true (by first | (with_reducible assumption) | assumption)
                                    obtain ⟨ad318, A318_2, c318_2, e318, hx318_0, hx318_1, hx318_2, hl318_2, hi318_2⟩ := at_T30 (Kd.S_reads' HO_5.out).2.2 x9_2 p318 q318
                                    obtain rfl : ad317 = ad318 := (by injection e318)
                                    obtain ⟨ce318, hce318, hMe318, hcc318⟩ := Kd.S_get HO_5.out z30 x9_2 p318 (by first | exact q318 | exact of_decide_eq_true (by first | (with_reducible assumption) | assumption) | (have e_ := (Kd.S_reads' HO_5.out).1; omega))
                                    obtain ⟨ve318_2, rfl, ge318_2⟩ := k30_openM hMe318
                                    have hv318_2 := hcc318 2 _ rfl
                                    rw [add_field _ _ 2 (by omega)] at hv318_2
                                    replace hv318_2 := Option.some.inj (hv318_2.symm.trans hx318_2)
                                    rw [hv318_2] at ge318_2
                                    have HL318_2 := Aside0.mk (show Kd.R (Kd.int .i64) 3 _ _ _ _ ((rd_T30 t307 x9_2).f2) from ge318_2)
                                    clear hv318_2 ge318_2
                                    clear hcc318 hce318
                                    have HR318_2 := Aside0.mk hi318_2
                                    have HC318_2 := Aside0.mk hl318_2
                                    clear hi318_2 hl318_2
                                    replace p318 := eq_true p318
                                    replace q318 := eq_true q318
                                    have p321 : 0 ≤ (x9_2 : Int) := of_decide_eq_true (by first | (with_reducible assumption) | assumption)
                                    have q321 : x9_2 < (t307.length : Int) := of_decide_eq_true (by first | (with_reducible assumption) | assumption)
                                    obtain ⟨ad321, A321_2, c321_2, e321, hx321_0, hx321_1, hx321_2, hl321_2, hi321_2⟩ := at_T30 (Kd.S_reads' HO_5.out).2.2 x9_2 p321 q321
                                    obtain rfl : ad317 = ad321 := (by injection e321)
                                    obtain ⟨ce321, hce321, hMe321, hcc321⟩ := Kd.S_get HO_5.out z30 x9_2 p321 (by first | exact q321 | exact of_decide_eq_true (by first | (with_reducible assumption) | assumption) | (have e_ := (Kd.S_reads' HO_5.out).1; omega))
                                    obtain ⟨ve321_2, rfl, ge321_2⟩ := k30_openM hMe321
                                    have hv321_2 := hcc321 2 _ rfl
                                    rw [add_field _ _ 2 (by omega)] at hv321_2
                                    replace hv321_2 := Option.some.inj (hv321_2.symm.trans hx321_2)
                                    rw [hv321_2] at ge321_2
                                    have HL321_2 := Aside0.mk (show Kd.R (Kd.int .i64) 3 _ _ _ _ ((rd_T30 t307 x9_2).f2) from ge321_2)
                                    clear hv321_2 ge321_2
                                    clear hcc321 hce321
                                    have HR321_2 := Aside0.mk hi321_2
                                    have HC321_2 := Aside0.mk hl321_2
                                    clear hi321_2 hl321_2
                                    replace p321 := eq_true p321
                                    replace q321 := eq_true q321
                                    have ea_ := Option.some.inj (hx318_2.symm.trans hx321_2)
                                    injection ea_ with ea_ en_ ec_
                                    subst ea_
                                    subst ec_
                                    clear en_
                                    go_wp2
                                    go_roundg k4
                                    case measure => have := HJ6.out; have := HK2.out; have := HJ16.out; have := HK4.out; omega
                                    case rel => exact ⟨((rd_T30 t307 x9_2).f1), (wrap64 (x9_2 + 1)), (by first | rfl | (simp; done) | (simp [*]; done)), (by first | rfl | (simp; done) | (simp [*]; done)), H', ⟨by have := HJ6.out; have := HK2.out; have := HJ16.out; have := HK4.out; omega⟩, ⟨by (with_reducible repeat (first | apply Kd.S_alloc | apply Kd.S_drewN | apply Kd.S_drew)); exact HO_5.out⟩, ⟨by repeat (first | (with_reducible first | exact HB.out | apply below_alloc | apply pw_below_drewN | apply below_drew1) | exact HB.out)⟩⟩
                                · rw [if_neg c26] at H
                                  exact absurd H (by simp)
                              · rw [if_neg c25] at H
                                exact absurd H (by simp)
                        · rw [if_neg c24] at H
                          exact absurd H (by simp)
                      · rw [if_neg c23] at H
                        exact absurd H (by simp)
              · rw [if_neg c16] at H
                have c16b0 : decide (x9_2 < (t307.length : Int)) = false := decide_eq_false c16
                clear c16
                obtain rfl := Option.some.inj H
                obtain ⟨Ao32, co32, eo32⟩ := Kd.S_slice HO_5.out
                subst eo32
                go_wp2
                go_ret
                exact ⟨by first | rfl | (simp [errW_none, errW_some] <;> rfl) | (simp [*, errW_none, errW_some] <;> rfl), by repeat (first | (with_reducible first | exact HB.out | apply below_alloc | apply pw_below_drewN | apply below_drew1) | exact HB.out)⟩

end Go.Proofs.Ytpfbfnbffglbkaa.P
