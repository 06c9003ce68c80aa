/- Ytndedmkjmahohaa: what Go functions come to, and that they do: walks, printed by a program of this session or typed by hand; no statement of the seat stands here. -/
import Derived.Test.YtndedmkjmahohaaP0
import Derived.Test.YtndedmkjmahohaaPE2
import Derived.Test.YtndedmkjmahohaaPF37
import Derived.Test.YtndedmkjmahohaaPF38
import Derived.Test.YtndedmkjmahohaaPF36
import Derived.Test.YtndedmkjmahohaaPF39
namespace Go.Proofs.Ytndedmkjmahohaa.P
open Go.RowKit Go.Proofs.YtndedmkjmahohaaW.PrintWords Go.Proofs.YtndedmkjmahohaaW.PrintLast Go.Proofs.YtndedmkjmahohaaW.PrintMore
attribute [local go_sem] max2_int min2_int max_two min_two max_three min_three max_four min_four   -- for this text's walks alone
set_option linter.unusedVariables false
set_option linter.unusedSimpArgs false

attribute [local go_sem high] eqA55
/-! ### pianolalaw12_EncodeLoads: function 9 -/
mutual
def pianolalaw12_EncodeLoads.j0 : Nat → Int → List (S55) → List (S55) → Bool → Option (Bool)
  | 0, _, _, _, _ => none
  | k + 1, x1, x5, x6, x29 => if x29 = true then (some false) else (pianolalaw12_EncodeLoads.l0 k x1 x5 x6 0 0)
def pianolalaw12_EncodeLoads.l0 : Nat → Int → List (S55) → List (S55) → Int → Int → Option (Bool)
  | 0, _, _, _, _, _ => none
  | k + 1, x1, x5, x6, x7, x8 => if x8 < (x5.length : Int) then (if 0 ≤ x8 then (if x8 < (x6.length : Int) then (if (!(((rd_T55 x5 x8).f0) == ((rd_T55 x6 x8).f0)) || (!(((rd_T55 x5 x8).f1) == ((rd_T55 x6 x8).f1)) || (!(((rd_T55 x5 x8).f2) == ((rd_T55 x6 x8).f2)) || (!(((rd_T55 x5 x8).f3) == ((rd_T55 x6 x8).f3)) || (!(((rd_T55 x5 x8).f4) == ((rd_T55 x6 x8).f4)) || (!(((rd_T55 x5 x8).f5) == ((rd_T55 x6 x8).f5)) || (!(((rd_T55 x5 x8).f6) == ((rd_T55 x6 x8).f6)) || (!(((rd_T55 x5 x8).f7) == ((rd_T55 x6 x8).f7)))))))))) = true then (pianolalaw12_EncodeLoads.j2 k x1 x5 x6 x7 x8 true) else ((encode_May.f ((rd_T55 x5 x8).f0) ((rd_T55 x5 x8).f1) ((rd_T55 x5 x8).f2) ((rd_T55 x5 x8).f3) ((rd_T55 x5 x8).f4) ((rd_T55 x5 x8).f5) ((rd_T55 x5 x8).f6) ((rd_T55 x5 x8).f7)).bind fun t259 => (pianolalaw12_EncodeLoads.j2 k x1 x5 x6 x7 x8 (!t259)))) else (none)) else (none)) else (if (x5.length : Int) = 0 then (some true) else (some ((wrap64 (x7)) == x1)))
def pianolalaw12_EncodeLoads.j2 : Nat → Int → List (S55) → List (S55) → Int → Int → Bool → Option (Bool)
  | 0, _, _, _, _, _, _ => none
  | k + 1, x1, x5, x6, x7, x8, x52 => if x52 = true then (some false) else (if 0 ≤ x8 then (if x8 < (x5.length : Int) then (if 0 ≤ (wrap64 (16 * ((rd_T55 x5 x8).f6))) then (if ((rd_T55 x5 x8).f0) = 16 then (pianolalaw12_EncodeLoads.l0 k x1 x5 x6 (shl .u64 (IntKind.u64.wrap ((rd_T55 x5 x8).f5)) (wrap64 (16 * ((rd_T55 x5 x8).f6)))) (wrap64 (x8 + 1))) else (if ((rd_T55 x5 x8).f0) = 18 then (pianolalaw12_EncodeLoads.l0 k x1 x5 x6 (Go.bits .xor .u64 18446744073709551615 (shl .u64 (IntKind.u64.wrap ((rd_T55 x5 x8).f5)) (wrap64 (16 * ((rd_T55 x5 x8).f6))))) (wrap64 (x8 + 1))) else (pianolalaw12_EncodeLoads.l0 k x1 x5 x6 (Go.bits .or .u64 (Go.bits .andNot .u64 x7 (shl .u64 65535 (wrap64 (16 * ((rd_T55 x5 x8).f6))))) (shl .u64 (IntKind.u64.wrap ((rd_T55 x5 x8).f5)) (wrap64 (16 * ((rd_T55 x5 x8).f6))))) (wrap64 (x8 + 1))))) else (none)) else (none)) else (none))
end
def pianolalaw12_EncodeLoads.f (k : Nat) (a0 : Int) (a1 : Int) : Option (Bool) := (encode_Load.f a0 a1).bind fun t249 => ((pianolaref12_Load.f a0 a1).bind fun t252 => ((pianolalaw12_lives.f).bind fun t255 => (if t255 = true then (if (t249.length : Int) = (t252.length : Int) then (pianolalaw12_EncodeLoads.j0 k a1 t249 t252 (decide ((t249.length : Int) > 4))) else (pianolalaw12_EncodeLoads.j0 k a1 t249 t252 true)) else (pianolalaw12_EncodeLoads.j0 k a1 t249 t252 true))))
theorem pianolalaw12_EncodeLoads.mono_l : ∀ k, (∀ y0 y1 y2 y3, LeO (pianolalaw12_EncodeLoads.j0 k y0 y1 y2 y3) (pianolalaw12_EncodeLoads.j0 (k + 1) y0 y1 y2 y3)) ∧ (∀ y0 y1 y2 y3 y4, LeO (pianolalaw12_EncodeLoads.l0 k y0 y1 y2 y3 y4) (pianolalaw12_EncodeLoads.l0 (k + 1) y0 y1 y2 y3 y4)) ∧ (∀ y0 y1 y2 y3 y4 y5, LeO (pianolalaw12_EncodeLoads.j2 k y0 y1 y2 y3 y4 y5) (pianolalaw12_EncodeLoads.j2 (k + 1) y0 y1 y2 y3 y4 y5))
  | 0 => ⟨fun _ _ _ _ r h => by simp [pianolalaw12_EncodeLoads.j0] at h, fun _ _ _ _ _ r h => by simp [pianolalaw12_EncodeLoads.l0] at h, fun _ _ _ _ _ _ r h => by simp [pianolalaw12_EncodeLoads.j2] at h⟩
  | k + 1 => by
    obtain ⟨ih0, ih1, ih2⟩ := pianolalaw12_EncodeLoads.mono_l k
    refine ⟨?_, ?_, ?_⟩
    · intro y0 y1 y2 y3
      unfold pianolalaw12_EncodeLoads.j0
      repeat' first
      | (with_reducible exact ih0 _ _ _ _)
      | (with_reducible exact ih1 _ _ _ _ _)
      | (with_reducible exact ih2 _ _ _ _ _ _)
      | (with_reducible exact LeO.refl _)
      | (with_reducible exact LeO.none _)
      | (with_reducible refine LeO.ite ?_ ?_)
      | (with_reducible refine LeO.bind ?_ (fun _ => ?_))
      | exact ih0 _ _ _ _
      | exact ih1 _ _ _ _ _
      | exact ih2 _ _ _ _ _ _
      | exact LeO.none _
      | refine LeO.ite ?_ ?_
      | refine LeO.bind ?_ (fun _ => ?_)
    · intro y0 y1 y2 y3 y4
      unfold pianolalaw12_EncodeLoads.l0
      repeat' first
      | (with_reducible exact ih0 _ _ _ _)
      | (with_reducible exact ih1 _ _ _ _ _)
      | (with_reducible exact ih2 _ _ _ _ _ _)
      | (with_reducible exact LeO.refl _)
      | (with_reducible exact LeO.none _)
      | (with_reducible refine LeO.ite ?_ ?_)
      | (with_reducible refine LeO.bind ?_ (fun _ => ?_))
      | exact ih0 _ _ _ _
      | exact ih1 _ _ _ _ _
      | exact ih2 _ _ _ _ _ _
      | exact LeO.none _
      | refine LeO.ite ?_ ?_
      | refine LeO.bind ?_ (fun _ => ?_)
    · intro y0 y1 y2 y3 y4 y5
      unfold pianolalaw12_EncodeLoads.j2
      repeat' first
      | (with_reducible exact ih0 _ _ _ _)
      | (with_reducible exact ih1 _ _ _ _ _)
      | (with_reducible exact ih2 _ _ _ _ _ _)
      | (with_reducible exact LeO.refl _)
      | (with_reducible exact LeO.none _)
      | (with_reducible refine LeO.ite ?_ ?_)
      | (with_reducible refine LeO.bind ?_ (fun _ => ?_))
      | exact ih0 _ _ _ _
      | exact ih1 _ _ _ _ _
      | exact ih2 _ _ _ _ _ _
      | exact LeO.none _
      | refine LeO.ite ?_ ?_
      | refine LeO.bind ?_ (fun _ => ?_)
theorem pianolalaw12_EncodeLoads.mono : ∀ a0 a1 k, LeO (pianolalaw12_EncodeLoads.f k a0 a1) (pianolalaw12_EncodeLoads.f (k + 1) a0 a1) := by
  intro a0 a1 k
  obtain ⟨ih0, ih1, ih2⟩ := pianolalaw12_EncodeLoads.mono_l k
  unfold pianolalaw12_EncodeLoads.f
  repeat' first
      | (with_reducible exact ih0 _ _ _ _)
      | (with_reducible exact ih1 _ _ _ _ _)
      | (with_reducible exact ih2 _ _ _ _ _ _)
      | (with_reducible exact LeO.refl _)
      | (with_reducible exact LeO.none _)
      | (with_reducible refine LeO.ite ?_ ?_)
      | (with_reducible refine LeO.bind ?_ (fun _ => ?_))
      | exact ih0 _ _ _ _
      | exact ih1 _ _ _ _ _
      | exact ih2 _ _ _ _ _ _
      | exact LeO.none _
      | refine LeO.ite ?_ ?_
      | refine LeO.bind ?_ (fun _ => ?_)
def pianolalaw12_EncodeLoads.T8 : Bool × List (List Nat × List Nat) := (true, [([], []), ([], []), ([0, 1], [0, 1]), ([2], [2]), ([], []), ([], []), ([4, 5], [4, 5]), ([6], [6]), ([3, 7], [3, 7]), ([8], [8]), ([9], [9]), ([9], [9]), ([10, 11, 9], [9, 10, 11]), ([12, 9], [9, 12]), ([13, 9, 9], [9, 13]), ([14, 9], [9, 14]), ([9, 15], [9, 15])])
def pianolalaw12_EncodeLoads.B8 : List Nat := [0, 0, 3, 7, 0, 0, 48, 112, 255, 511, 1023, 1023, 4095, 8191, 16383, 32767, 65535]
theorem pianolalaw12_EncodeLoads.tab8 : rtab .any (opsOf Try.f9 8) = pianolalaw12_EncodeLoads.T8 := by kernel_rfl
theorem pianolalaw12_EncodeLoads.bits8 : waitsOk pianolalaw12_EncodeLoads.T8.2 pianolalaw12_EncodeLoads.B8 = true := by kernel_rfl
def pianolalaw12_EncodeLoads.T10 : Bool × List (List Nat × List Nat) := (true, [([], []), ([], []), ([0, 1], [0, 1]), ([2], [2]), ([3], [3]), ([4], [4]), ([], []), ([], []), ([6, 7], [6, 7]), ([8], [8]), ([9], [9]), ([10], [10]), ([5, 11], [5, 11]), ([12, 0, 1, 2, 3, 4, 5, 6, 7, 8, 9, 10, 11, 12], [12])])
def pianolalaw12_EncodeLoads.B10 : List Nat := [0, 0, 3, 7, 15, 31, 0, 0, 192, 448, 960, 1984, 4095, 8191]
theorem pianolalaw12_EncodeLoads.tab10 : rtab .any (opsOf Try.f9 10) = pianolalaw12_EncodeLoads.T10 := by kernel_rfl
theorem pianolalaw12_EncodeLoads.bits10 : waitsOk pianolalaw12_EncodeLoads.T10.2 pianolalaw12_EncodeLoads.B10 = true := by kernel_rfl
set_option maxHeartbeats 8000000 in
set_option maxRecDepth 100000 in
theorem pianolalaw12_EncodeLoads.calls (k : Nat) (a0 : Int) (a1 : Int) (r : Bool) (w : World) (h : pianolalaw12_EncodeLoads.f k a0 a1 = some r) :
    Calls Try.prog 9 #[.int .i64 a0, .int .i64 a1] w fun e w' => e = .returned (.bool r) ∧ Below w.heap.size w w' := by
  have hu55 := Try.underlying55
  have HB := Aside0.mk (Below.refl w.heap.size w)
  have H : ((encode_Load.f a0 a1).bind fun t249 => ((pianolaref12_Load.f a0 a1).bind fun t252 => ((pianolalaw12_lives.f).bind fun t255 => (if t255 = true then (if (t249.length : Int) = (t252.length : Int) then (pianolalaw12_EncodeLoads.j0 k a1 t249 t252 (decide ((t249.length : Int) > 4))) else (pianolalaw12_EncodeLoads.j0 k a1 t249 t252 true)) else (pianolalaw12_EncodeLoads.j0 k a1 t249 t252 true))))) = some r := h
  clear h
  replace H := Option.bind_eq_some_iff.mp H
  obtain ⟨t249, A30, H⟩ := H
  replace H : ((pianolaref12_Load.f a0 a1).bind fun t252 => ((pianolalaw12_lives.f).bind fun t255 => (if t255 = true then (if (t249.length : Int) = (t252.length : Int) then (pianolalaw12_EncodeLoads.j0 k a1 t249 t252 (decide ((t249.length : Int) > 4))) else (pianolalaw12_EncodeLoads.j0 k a1 t249 t252 true)) else (pianolalaw12_EncodeLoads.j0 k a1 t249 t252 true)))) = some r := H
  have A3 := Aside0.mk A30
  clear A30
  replace H := Option.bind_eq_some_iff.mp H
  obtain ⟨t252, A40, H⟩ := H
  replace H : ((pianolalaw12_lives.f).bind fun t255 => (if t255 = true then (if (t249.length : Int) = (t252.length : Int) then (pianolalaw12_EncodeLoads.j0 k a1 t249 t252 (decide ((t249.length : Int) > 4))) else (pianolalaw12_EncodeLoads.j0 k a1 t249 t252 true)) else (pianolalaw12_EncodeLoads.j0 k a1 t249 t252 true))) = some r := H
  have A4 := Aside0.mk A40
  clear A40
  have HC5 := Aside0.mk H
  clear H
  go_enter Try.func9, Try.ntmps9
  go_upto_region 2 with (first | ((with_reducible refine gate_callee (f := 38) rfl ?_); refine goesL_ (some 12) rfl rfl Try.func38 (by kernel_rfl) rfl #[.int .i64 a0, .int .i64 a1] rfl (by (try simp only [List.map_toArray, List.map_cons, List.map_nil]); first | done | rfl | (simp only [List.length_drop, List.length_take]; rfl)) ?_; (with_reducible refine (encode_Load.calls a0 a1 t249 _ A3.out).mono ?_); rintro e w6 ⟨v250, rfl, ho0, hb⟩; refine ⟨_, rfl, ?_⟩; have n0_ := Aside0.mk (Kd.R_lower ho0 (below_size (by repeat (first | (with_reducible first | exact HB.out | apply below_alloc | apply pw_below_drewN | apply below_drew1) | exact HB.out)))); have n1_ := Aside0.mk (below_step (by repeat (first | (with_reducible first | exact HB.out | apply below_alloc | apply pw_below_drewN | apply below_drew1) | exact HB.out)) hb); clear HB; have HO251 := n0_; have HB := n1_; clear n0_ n1_; (try clear hb); (try clear hb2); (try clear hk); (try clear hi); (try clear ho0)) | ((with_reducible refine gate_callee (f := 39) rfl ?_); refine goesL_ (some 15) rfl rfl Try.func39 (by kernel_rfl) rfl #[.int .i64 a0, .int .i64 a1] rfl (by (try simp only [List.map_toArray, List.map_cons, List.map_nil]); first | done | rfl | (simp only [List.length_drop, List.length_take]; rfl)) ?_; (with_reducible refine (pianolaref12_Load.calls a0 a1 t252 _ A4.out).mono ?_); rintro e w7 ⟨v253, rfl, ho0, hb⟩; refine ⟨_, rfl, ?_⟩; have n0_ := Aside0.mk (Kd.R_elder' (by (with_reducible repeat (first | apply Kd.R_alloc | apply Kd.R_drewN | apply Kd.R_drew)); exact HO251.out) (Kd.R_base ho0) hb); have n1_ := Aside0.mk (Kd.R_lower (Kd.R_new' ho0 (Kd.R_lt (by (with_reducible repeat (first | apply Kd.R_alloc | apply Kd.R_drewN | apply Kd.R_drew)); exact HO251.out))) (below_size (by repeat (first | (with_reducible first | exact HB.out | apply below_alloc | apply pw_below_drewN | apply below_drew1) | exact HB.out)))); have n2_ := Aside0.mk (below_step (by repeat (first | (with_reducible first | exact HB.out | apply below_alloc | apply pw_below_drewN | apply below_drew1) | exact HB.out)) hb); clear HO251; clear HB; have HO251 := n0_; have HO254 := n1_; have HB := n2_; clear n0_ n1_ n2_; (try clear hb); (try clear hb2); (try clear hk); (try clear hi); (try clear ho0)))
  (try simp only [Act.put, List.setIfInBounds_toArray, List.set_cons_zero, List.set_cons_succ])
  go_cut [29] (fun v29 wc => ∃ (kq : Nat) (x29_4 : Bool), v29 = .bool x29_4 ∧ Aside0 (pianolalaw12_EncodeLoads.j0 kq a1 t249 t252 x29_4 = some r) ∧ Aside0 (kq ≤ k) ∧ Aside0 (Kd.R k55 55 wc w.heap.size (fun k_ => some k_ ≠ (v253 : Value).ownBlock) v250 t249) ∧ Aside0 (Kd.R k55 55 wc w.heap.size (fun k_ => some k_ ≠ (v250 : Value).ownBlock) v253 t252) ∧ Aside0 (Below w.heap.size w wc))
  case first =>
    have H := HC5.out
    clear HC5
    replace H := Option.bind_eq_some_iff.mp H
    obtain ⟨t255, A80, H⟩ := H
    replace H : (if t255 = true then (if (t249.length : Int) = (t252.length : Int) then (pianolalaw12_EncodeLoads.j0 k a1 t249 t252 (decide ((t249.length : Int) > 4))) else (pianolalaw12_EncodeLoads.j0 k a1 t249 t252 true)) else (pianolalaw12_EncodeLoads.j0 k a1 t249 t252 true)) = some r := H
    have A8 := Aside0.mk A80
    clear A80
    by_cases c9 : t255 = true
    · subst c9
      have H1 : (if (t249.length : Int) = (t252.length : Int) then (pianolalaw12_EncodeLoads.j0 k a1 t249 t252 (decide ((t249.length : Int) > 4))) else (pianolalaw12_EncodeLoads.j0 k a1 t249 t252 true)) = some r := by rw [if_pos rfl] at H; exact H
      clear H
      have H := H1
      clear H1
      by_cases c10 : (t249.length : Int) = (t252.length : Int)
      · rw [if_pos c10] at H
        have c10b0 : ((t249.length : Int) == (t252.length : Int)) = true := beq_iff_eq.mpr c10
        have c10b1 : ((t249.length : Int) != (t252.length : Int)) = false := bne_eq_false_iff_eq.mpr c10
        have c10b2 : (t249.length == t252.length) = true := by first | simpa using c10 | (simp at c10 ⊢; omega)
        clear c10
        (first | rw [c10b0] | (simp only [i64_w, i32_w]; rw [c10b0]) | skip)
        have H' := Aside0.mk H
        clear H
        go_wp2_with (first | ((with_reducible refine gate_callee (f := 36) rfl ?_); refine goesL_ (some 16) rfl rfl Try.func36 (by kernel_rfl) rfl #[] rfl (by (try simp only [List.map_toArray, List.map_cons, List.map_nil]); first | done | rfl | (simp only [List.length_drop, List.length_take]; rfl)) ?_; (with_reducible refine (pianolalaw12_lives.calls  true _ A8.out).mono ?_); rintro e w11 ⟨rfl, hb⟩; refine ⟨_, rfl, ?_⟩; have n0_ := Aside0.mk (Kd.R_below (by (with_reducible repeat (first | apply Kd.R_alloc | apply Kd.R_drewN | apply Kd.R_drew)); exact HO251.out) hb); have n1_ := Aside0.mk (Kd.R_below (by (with_reducible repeat (first | apply Kd.R_alloc | apply Kd.R_drewN | apply Kd.R_drew)); exact HO254.out) hb); have n2_ := Aside0.mk (below_step (by repeat (first | (with_reducible first | exact HB.out | apply below_alloc | apply pw_below_drewN | apply below_drew1) | exact HB.out)) hb); clear HO251; clear HO254; clear HB; have HO251 := n0_; have HO254 := n1_; have HB := n2_; clear n0_ n1_ n2_; (try clear hb); (try clear hb2); (try clear hk); (try clear hi); obtain ⟨Ao12, co12, eo12⟩ := Kd.R_slice HO251.out; subst eo12; obtain ⟨Ao13, co13, eo13⟩ := Kd.R_slice HO254.out; subst eo13))
        go_meet
        case rel => exact ⟨_, (decide ((t249.length : Int) > 4)), (by first | rfl | (simp; done) | (simp [*]; done)), H', ⟨by first | omega | exact Nat.le_refl _⟩, ⟨by (with_reducible repeat (first | apply Kd.R_alloc | apply Kd.R_drewN | apply Kd.R_drew)); exact Kd.R_mono HO251.out (fun _ hk => hk.2)⟩, ⟨by (with_reducible repeat (first | apply Kd.R_alloc | apply Kd.R_drewN | apply Kd.R_drew)); exact Kd.R_mono HO254.out (fun _ hk => hk.2)⟩, ⟨by repeat (first | (with_reducible first | exact HB.out | apply below_alloc | apply pw_below_drewN | apply below_drew1) | exact HB.out)⟩⟩
      · rw [if_neg c10] at H
        have c10b0 : ((t249.length : Int) == (t252.length : Int)) = false := beq_eq_false_iff_ne.mpr c10
        have c10b1 : ((t249.length : Int) != (t252.length : Int)) = true := bne_iff_ne.mpr c10
        have c10b2 : (t249.length == t252.length) = false := by first | simpa using c10 | (simp at c10 ⊢; omega)
        (first | rw [c10b0] | (simp only [i64_w, i32_w]; rw [c10b0]) | skip)
        have H' := Aside0.mk H
        clear H
        go_wp2_with (first | ((with_reducible refine gate_callee (f := 36) rfl ?_); refine goesL_ (some 16) rfl rfl Try.func36 (by kernel_rfl) rfl #[] rfl (by (try simp only [List.map_toArray, List.map_cons, List.map_nil]); first | done | rfl | (simp only [List.length_drop, List.length_take]; rfl)) ?_; (with_reducible refine (pianolalaw12_lives.calls  true _ A8.out).mono ?_); rintro e w14 ⟨rfl, hb⟩; refine ⟨_, rfl, ?_⟩; have n0_ := Aside0.mk (Kd.R_below (by (with_reducible repeat (first | apply Kd.R_alloc | apply Kd.R_drewN | apply Kd.R_drew)); exact HO251.out) hb); have n1_ := Aside0.mk (Kd.R_below (by (with_reducible repeat (first | apply Kd.R_alloc | apply Kd.R_drewN | apply Kd.R_drew)); exact HO254.out) hb); have n2_ := Aside0.mk (below_step (by repeat (first | (with_reducible first | exact HB.out | apply below_alloc | apply pw_below_drewN | apply below_drew1) | exact HB.out)) hb); clear HO251; clear HO254; clear HB; have HO251 := n0_; have HO254 := n1_; have HB := n2_; clear n0_ n1_ n2_; (try clear hb); (try clear hb2); (try clear hk); (try clear hi); obtain ⟨Ao15, co15, eo15⟩ := Kd.R_slice HO251.out; subst eo15; obtain ⟨Ao16, co16, eo16⟩ := Kd.R_slice HO254.out; subst eo16))
        go_meet
        case rel => exact ⟨_, (true), (by first | rfl | (simp; done) | (simp [*]; done)), H', ⟨by first | omega | exact Nat.le_refl _⟩, ⟨by (with_reducible repeat (first | apply Kd.R_alloc | apply Kd.R_drewN | apply Kd.R_drew)); exact Kd.R_mono HO251.out (fun _ hk => hk.2)⟩, ⟨by (with_reducible repeat (first | apply Kd.R_alloc | apply Kd.R_drewN | apply Kd.R_drew)); exact Kd.R_mono HO254.out (fun _ hk => hk.2)⟩, ⟨by repeat (first | (with_reducible first | exact HB.out | apply below_alloc | apply pw_below_drewN | apply below_drew1) | exact HB.out)⟩⟩
    · replace c9 := Bool.eq_false_iff.mpr c9
      subst c9
      have H1 : (pianolalaw12_EncodeLoads.j0 k a1 t249 t252 true) = some r := by rw [if_neg (show ¬ (false = true) by decide)] at H; exact H
      clear H
      have H := H1
      clear H1
      have H' := Aside0.mk H
      clear H
      go_wp2_with (first | ((with_reducible refine gate_callee (f := 36) rfl ?_); refine goesL_ (some 16) rfl rfl Try.func36 (by kernel_rfl) rfl #[] rfl (by (try simp only [List.map_toArray, List.map_cons, List.map_nil]); first | done | rfl | (simp only [List.length_drop, List.length_take]; rfl)) ?_; (with_reducible refine (pianolalaw12_lives.calls  false _ A8.out).mono ?_); rintro e w17 ⟨rfl, hb⟩; refine ⟨_, rfl, ?_⟩; have n0_ := Aside0.mk (Kd.R_below (by (with_reducible repeat (first | apply Kd.R_alloc | apply Kd.R_drewN | apply Kd.R_drew)); exact HO251.out) hb); have n1_ := Aside0.mk (Kd.R_below (by (with_reducible repeat (first | apply Kd.R_alloc | apply Kd.R_drewN | apply Kd.R_drew)); exact HO254.out) hb); have n2_ := Aside0.mk (below_step (by repeat (first | (with_reducible first | exact HB.out | apply below_alloc | apply pw_below_drewN | apply below_drew1) | exact HB.out)) hb); clear HO251; clear HO254; clear HB; have HO251 := n0_; have HO254 := n1_; have HB := n2_; clear n0_ n1_ n2_; (try clear hb); (try clear hb2); (try clear hk); (try clear hi)))
      go_meet
      case rel => exact ⟨_, (true), (by first | rfl | (simp; done) | (simp [*]; done)), H', ⟨by first | omega | exact Nat.le_refl _⟩, ⟨by (with_reducible repeat (first | apply Kd.R_alloc | apply Kd.R_drewN | apply Kd.R_drew)); exact Kd.R_mono HO251.out (fun _ hk => hk.2)⟩, ⟨by (with_reducible repeat (first | apply Kd.R_alloc | apply Kd.R_drewN | apply Kd.R_drew)); exact Kd.R_mono HO254.out (fun _ hk => hk.2)⟩, ⟨by repeat (first | (with_reducible first | exact HB.out | apply below_alloc | apply pw_below_drewN | apply below_drew1) | exact HB.out)⟩⟩
  case rest =>
    clear HC5
    try clear c1
    try clear p2
    try clear c3
    try clear c9
    try clear c10
    try clear c10b0
    try clear c10b1
    try clear c10b2
    obtain ⟨kq, x29_4, rfl, HA, HJ4, HO_5, HO_6, HB⟩ := hcut
    cases kq with
    | zero => exact absurd HA.out (by simp [pianolalaw12_EncodeLoads.j0])
    | succ kj4 =>
      have H := HA.out
      clear HA
      simp only [pianolalaw12_EncodeLoads.j0] at H
      by_cases c18 : x29_4 = true
      · subst c18
        have H1 : (some false) = some r := by rw [if_pos rfl] at H; exact H
        clear H
        have H := H1
        clear H1
        obtain rfl := Option.some.inj H
        go_wp2
        go_ret
        exact ⟨by first | rfl | (simp [errW_none, errW_some] <;> rfl) | (simp [*, errW_none, errW_some] <;> rfl), by repeat (first | (with_reducible first | exact HB.out | apply below_alloc | apply pw_below_drewN | apply below_drew1) | exact HB.out)⟩
      · replace c18 := Bool.eq_false_iff.mpr c18
        subst c18
        have H1 : (pianolalaw12_EncodeLoads.l0 kj4 a1 t249 t252 0 0) = some r := by rw [if_neg (show ¬ (false = true) by decide)] at H; exact H
        clear H
        have H := H1
        clear H1
        have H' := Aside0.mk H
        clear H
        go_wp2
        go_loopg [7, 8] kj4 (fun kq v7 v8 w' => ∃ (x7_2 : Int) (x8_2 : Int), v7 = .int .u64 x7_2 ∧ v8 = .int .i64 x8_2 ∧ Aside0 (pianolalaw12_EncodeLoads.l0 kq a1 t249 t252 x7_2 x8_2 = some r) ∧ Aside0 (kq ≤ kj4) ∧ Aside0 (Kd.R k55 55 w' w.heap.size (fun k_ => some k_ ≠ (v253 : Value).ownBlock) v250 t249) ∧ Aside0 (Kd.R k55 55 w' w.heap.size (fun k_ => some k_ ≠ (v250 : Value).ownBlock) v253 t252) ∧ Aside0 (Below w.heap.size w w'))
        case atStart => exact ⟨(0), (0), (by first | rfl | (simp; done) | (simp [*]; done)), (by first | rfl | (simp; done) | (simp [*]; done)), H', ⟨Nat.le_refl _⟩, ⟨by (with_reducible repeat (first | apply Kd.R_alloc | apply Kd.R_drewN | apply Kd.R_drew)); exact HO_5.out⟩, ⟨by (with_reducible repeat (first | apply Kd.R_alloc | apply Kd.R_drewN | apply Kd.R_drew)); exact HO_6.out⟩, ⟨by repeat (first | (with_reducible first | exact HB.out | apply below_alloc | apply pw_below_drewN | apply below_drew1) | exact HB.out)⟩⟩
        case round =>
          clear H'
          try clear c1
          try clear p2
          try clear c3
          try clear c9
          try clear c10
          try clear c10b0
          try clear c10b1
          try clear c10b2
          try clear c18
          try clear p2
          obtain ⟨x7_2, x8_2, rfl, rfl, HA, HK2, HO_5, HO_6, HB⟩ := hrel
          cases gk with
          | zero => exact absurd HA.out (by simp [pianolalaw12_EncodeLoads.l0])
          | succ k2 =>
            have H := HA.out
            clear HA
            simp only [pianolalaw12_EncodeLoads.l0] at H
            by_cases c19 : x8_2 < (t249.length : Int)
            · rw [if_pos c19] at H
              have c19b0 : decide (x8_2 < (t249.length : Int)) = true := decide_eq_true c19
              clear c19
              have HC20 := Aside0.mk H
              clear H
              obtain ⟨Ao21, co21, eo21⟩ := Kd.R_slice HO_5.out
              subst eo21
              go_upto_region 8 with (fail)
              go_cut [52] (fun v52 wc => ∃ (kq : Nat) (x52_19 : Bool), v52 = .bool x52_19 ∧ Aside0 (pianolalaw12_EncodeLoads.j2 kq a1 t249 t252 x7_2 x8_2 x52_19 = some r) ∧ Aside0 (kq ≤ k2) ∧ Aside0 (Kd.R k55 55 wc w.heap.size (fun k_ => some k_ ≠ (v253 : Value).ownBlock) (.slice Ao21 t249.length co21) t249) ∧ Aside0 (Kd.R k55 55 wc w.heap.size (fun k_ => some k_ ≠ ((.slice Ao21 t249.length co21) : Value).ownBlock) v253 t252) ∧ Aside0 (Below w.heap.size w wc))
              case first =>
                have H := HC20.out
                clear HC20
                by_cases c22 : 0 ≤ x8_2
                · rw [if_pos c22] at H
                  have c22b0 : decide (0 ≤ x8_2) = true := decide_eq_true c22
                  clear c22
                  (first | rw [c22b0] | (simp only [i64_w, i32_w]; rw [c22b0]) | skip)
                  by_cases c23 : x8_2 < (t252.length : Int)
                  · rw [if_pos c23] at H
                    have c23b0 : decide (x8_2 < (t252.length : Int)) = true := decide_eq_true c23
                    clear c23
                    by_cases c24 : (!(((rd_T55 t249 x8_2).f0) == ((rd_T55 t252 x8_2).f0)) || (!(((rd_T55 t249 x8_2).f1) == ((rd_T55 t252 x8_2).f1)) || (!(((rd_T55 t249 x8_2).f2) == ((rd_T55 t252 x8_2).f2)) || (!(((rd_T55 t249 x8_2).f3) == ((rd_T55 t252 x8_2).f3)) || (!(((rd_T55 t249 x8_2).f4) == ((rd_T55 t252 x8_2).f4)) || (!(((rd_T55 t249 x8_2).f5) == ((rd_T55 t252 x8_2).f5)) || (!(((rd_T55 t249 x8_2).f6) == ((rd_T55 t252 x8_2).f6)) || (!(((rd_T55 t249 x8_2).f7) == ((rd_T55 t252 x8_2).f7)))))))))) = true
                    · rw [if_pos c24] at H
                      have c24b0 : (!(((rd_T55 t249 x8_2).f0) == ((rd_T55 t252 x8_2).f0)) || (!(((rd_T55 t249 x8_2).f1) == ((rd_T55 t252 x8_2).f1)) || (!(((rd_T55 t249 x8_2).f2) == ((rd_T55 t252 x8_2).f2)) || (!(((rd_T55 t249 x8_2).f3) == ((rd_T55 t252 x8_2).f3)) || (!(((rd_T55 t249 x8_2).f4) == ((rd_T55 t252 x8_2).f4)) || (!(((rd_T55 t249 x8_2).f5) == ((rd_T55 t252 x8_2).f5)) || (!(((rd_T55 t249 x8_2).f6) == ((rd_T55 t252 x8_2).f6)) || (!(((rd_T55 t249 x8_2).f7) == ((rd_T55 t252 x8_2).f7)))))))))) = true := c24
                      clear c24
                      have H' := Aside0.mk H
                      clear H
                      try go_wp2
                      have n0_ := Aside0.mk (Kd.R_drew HO_5.out)
                      have n1_ := Aside0.mk (Kd.R_drew HO_6.out)
                      have n2_ := Aside0.mk (below_drew1 HB.out)
                      clear HO_5
                      clear HO_6
                      clear HB
                      have HO_5 := n0_
                      have HO_6 := n1_
                      have HB := n2_
                      clear n0_ n1_ n2_
                      have p256 : 0 ≤ (x8_2 : Int) := of_decide_eq_true (by first | (with_reducible assumption) | assumption)
                      have q256 : x8_2 < (t249.length : Int) := of_decide_eq_true (by first | (with_reducible assumption) | assumption)
                      obtain ⟨ad256, e256, hx256_0, hx256_1, hx256_2, hx256_3, hx256_4, hx256_5, hx256_6, hx256_7⟩ := at_T55 (Kd.R_reads' HO_5.out).2.2 x8_2 p256 q256
                      cases e256
                      replace p256 := eq_true p256
                      replace q256 := eq_true q256
                      obtain ⟨Ao26, co26, eo26⟩ := Kd.R_slice HO_6.out
                      (first | subst eo26 | (injection eo26 with f1_ f2_ f3_; have f4_ := f1_.symm; have f5_ := f3_.symm; clear f1_ f2_ f3_; subst f4_; subst f5_))
                      have p257 : 0 ≤ (x8_2 : Int) := of_decide_eq_true (by first | (with_reducible assumption) | assumption)
                      have q257 : x8_2 < (t252.length : Int) := of_decide_eq_true (by first | (with_reducible assumption) | assumption)
                      obtain ⟨ad257, e257, hx257_0, hx257_1, hx257_2, hx257_3, hx257_4, hx257_5, hx257_6, hx257_7⟩ := at_T55 (Kd.R_reads' HO_6.out).2.2 x8_2 p257 q257
                      cases e257
                      replace p257 := eq_true p257
                      replace q257 := eq_true q257
                      refine start_ (n := 17) (S := fun w' => w'.cell? (ad256.add ((x8_2).toNat * 8)) = some (.int .i64 ((rd_T55 t249 x8_2).f0)) ∧ w'.cell? ⟨(ad256.add ((x8_2).toNat * 8)).block, (ad256.add ((x8_2).toNat * 8)).off + 1, none⟩ = some (.int .i64 ((rd_T55 t249 x8_2).f1)) ∧ w'.cell? ⟨(ad256.add ((x8_2).toNat * 8)).block, (ad256.add ((x8_2).toNat * 8)).off + 2, none⟩ = some (.int .i64 ((rd_T55 t249 x8_2).f2)) ∧ w'.cell? ⟨(ad256.add ((x8_2).toNat * 8)).block, (ad256.add ((x8_2).toNat * 8)).off + 3, none⟩ = some (.int .i64 ((rd_T55 t249 x8_2).f3)) ∧ w'.cell? ⟨(ad256.add ((x8_2).toNat * 8)).block, (ad256.add ((x8_2).toNat * 8)).off + 4, none⟩ = some (.int .i64 ((rd_T55 t249 x8_2).f4)) ∧ w'.cell? ⟨(ad256.add ((x8_2).toNat * 8)).block, (ad256.add ((x8_2).toNat * 8)).off + 5, none⟩ = some (.int .i64 ((rd_T55 t249 x8_2).f5)) ∧ w'.cell? ⟨(ad256.add ((x8_2).toNat * 8)).block, (ad256.add ((x8_2).toNat * 8)).off + 6, none⟩ = some (.int .i64 ((rd_T55 t249 x8_2).f6)) ∧ w'.cell? ⟨(ad256.add ((x8_2).toNat * 8)).block, (ad256.add ((x8_2).toNat * 8)).off + 7, none⟩ = some (.int .i64 ((rd_T55 t249 x8_2).f7)) ∧ w'.cell? (ad257.add ((x8_2).toNat * 8)) = some (.int .i64 ((rd_T55 t252 x8_2).f0)) ∧ w'.cell? ⟨(ad257.add ((x8_2).toNat * 8)).block, (ad257.add ((x8_2).toNat * 8)).off + 1, none⟩ = some (.int .i64 ((rd_T55 t252 x8_2).f1)) ∧ w'.cell? ⟨(ad257.add ((x8_2).toNat * 8)).block, (ad257.add ((x8_2).toNat * 8)).off + 2, none⟩ = some (.int .i64 ((rd_T55 t252 x8_2).f2)) ∧ w'.cell? ⟨(ad257.add ((x8_2).toNat * 8)).block, (ad257.add ((x8_2).toNat * 8)).off + 3, none⟩ = some (.int .i64 ((rd_T55 t252 x8_2).f3)) ∧ w'.cell? ⟨(ad257.add ((x8_2).toNat * 8)).block, (ad257.add ((x8_2).toNat * 8)).off + 4, none⟩ = some (.int .i64 ((rd_T55 t252 x8_2).f4)) ∧ w'.cell? ⟨(ad257.add ((x8_2).toNat * 8)).block, (ad257.add ((x8_2).toNat * 8)).off + 5, none⟩ = some (.int .i64 ((rd_T55 t252 x8_2).f5)) ∧ w'.cell? ⟨(ad257.add ((x8_2).toNat * 8)).block, (ad257.add ((x8_2).toNat * 8)).off + 6, none⟩ = some (.int .i64 ((rd_T55 t252 x8_2).f6)) ∧ w'.cell? ⟨(ad257.add ((x8_2).toNat * 8)).block, (ad257.add ((x8_2).toNat * 8)).off + 7, none⟩ = some (.int .i64 ((rd_T55 t252 x8_2).f7))) (ds := []) #[false, false, false, false, false, false, false, false, false, false, false, false, false, false, false, false, false] (by kernel_rfl) rfl rfl ⟨hx256_0, hx256_1, hx256_2, hx256_3, hx256_4, hx256_5, hx256_6, hx256_7, hx257_0, hx257_1, hx257_2, hx257_3, hx257_4, hx257_5, hx257_6, hx257_7⟩ (fun hHeld => ?_); refine with_tabW pianolalaw12_EncodeLoads.tab8 pianolalaw12_EncodeLoads.bits8 (fun HT_ HW_ => ?_)
                      generalize wr.drew = w25 at HO_5 HO_6 HB hx256_0 hx256_1 hx256_2 hx256_3 hx256_4 hx256_5 hx256_6 hx256_7 hx257_0 hx257_1 hx257_2 hx257_3 hx257_4 hx257_5 hx257_6 hx257_7 hHeld ⊢
                      refine pure_ (i := 0) (N := some 36) (v := ?_) (a' := ?_) #[true, false, false, false, false, false, false, false, false, false, false, false, false, false, false, false, false] rfl rfl (any_of HT_.out (by kernel_rfl)) (fun _ _ _ h => h) (Or.inl ⟨by rfl, ?_⟩) ?_ ?_
                      rotate_left
                      · intro w'
                        go_simp
                        with_reducible rfl
                      rotate_left
                      · simp only [Act.put, List.setIfInBounds_toArray, List.set_cons_zero, List.set_cons_succ, i64_w, i32_w]
                        rfl
                      refine pure_ (i := 1) (N := some 37) (v := ?_) (a' := ?_) #[true, true, false, false, false, false, false, false, false, false, false, false, false, false, false, false, false] rfl rfl (any_of HT_.out (by kernel_rfl)) (fun _ _ _ h => h) (Or.inl ⟨by rfl, ?_⟩) ?_ ?_
                      rotate_left
                      · intro w'
                        go_simp
                        with_reducible rfl
                      rotate_left
                      · simp only [Act.put, List.setIfInBounds_toArray, List.set_cons_zero, List.set_cons_succ, i64_w, i32_w]
                        rfl
                      refine pure_ (i := 2) (N := some 38) (v := ?_) (a' := ?_) #[true, true, true, false, false, false, false, false, false, false, false, false, false, false, false, false, false] rfl rfl (any_of HT_.out (by kernel_rfl)) (fun _ _ _ h => h) (Or.inl ⟨by rfl, ?_⟩) ?_ ?_
                      rotate_left
                      · intro w'
                        go_simp
                        with_reducible rfl
                      rotate_left
                      · simp only [Act.put, List.setIfInBounds_toArray, List.set_cons_zero, List.set_cons_succ, i64_w, i32_w]
                        rfl
                      refine pure_ (i := 4) (N := some 40) (v := ?_) (a' := ?_) #[true, true, true, false, true, false, false, false, false, false, false, false, false, false, false, false, false] rfl rfl (any_of HT_.out (by kernel_rfl)) (fun _ _ _ h => h) (Or.inl ⟨by rfl, ?_⟩) ?_ ?_
                      rotate_left
                      · intro w'
                        go_simp
                        with_reducible rfl
                      rotate_left
                      · simp only [Act.put, List.setIfInBounds_toArray, List.set_cons_zero, List.set_cons_succ, i64_w, i32_w]
                        rfl
                      refine pure_ (i := 5) (N := some 41) (v := ?_) (a' := ?_) #[true, true, true, false, true, true, false, false, false, false, false, false, false, false, false, false, false] rfl rfl (any_of HT_.out (by kernel_rfl)) (fun _ _ _ h => h) (Or.inl ⟨by rfl, ?_⟩) ?_ ?_
                      rotate_left
                      · intro w'
                        go_simp
                        with_reducible rfl
                      rotate_left
                      · simp only [Act.put, List.setIfInBounds_toArray, List.set_cons_zero, List.set_cons_succ, i64_w, i32_w]
                        rfl
                      refine pure_ (i := 6) (N := some 42) (v := ?_) (a' := ?_) #[true, true, true, false, true, true, true, false, false, false, false, false, false, false, false, false, false] rfl rfl (any_of HT_.out (by kernel_rfl)) (fun _ _ _ h => h) (Or.inl ⟨by rfl, ?_⟩) ?_ ?_
                      rotate_left
                      · intro w'
                        go_simp
                        with_reducible rfl
                      rotate_left
                      · simp only [Act.put, List.setIfInBounds_toArray, List.set_cons_zero, List.set_cons_succ, i64_w, i32_w]
                        rfl
                      refine take_ (i := 3) (N := some 39) (v := ?_) (a' := ?_) #[true, true, true, true, true, true, true, false, false, false, false, false, false, false, false, false, false] rfl rfl (take_ofW HT_.out HW_.out (by kernel_rfl)) (fun _ _ _ h => h) (Or.inl ⟨by rfl, ?_⟩) hHeld ?_ ?_
                      rotate_left
                      · rintro w' ⟨s0, s1, s2, s3, s4, s5, s6, s7, s8, s9, s10, s11, s12, s13, s14, s15⟩
                        go_simp
                        with_reducible rfl
                      rotate_left
                      · simp only [Act.put, List.setIfInBounds_toArray, List.set_cons_zero, List.set_cons_succ, i64_w, i32_w]
                        rfl
                      refine take_ (i := 7) (N := some 43) (v := ?_) (a' := ?_) #[true, true, true, true, true, true, true, true, false, false, false, false, false, false, false, false, false] rfl rfl (take_ofW HT_.out HW_.out (by kernel_rfl)) (fun _ _ _ h => h) (Or.inl ⟨by rfl, ?_⟩) hHeld ?_ ?_
                      rotate_left
                      · rintro w' ⟨s0, s1, s2, s3, s4, s5, s6, s7, s8, s9, s10, s11, s12, s13, s14, s15⟩
                        go_simp
                        with_reducible rfl
                      rotate_left
                      · simp only [Act.put, List.setIfInBounds_toArray, List.set_cons_zero, List.set_cons_succ, i64_w, i32_w]
                        rfl
                      refine pure_ (i := 8) (N := some 44) (v := ?_) (a' := ?_) #[true, true, true, true, true, true, true, true, true, false, false, false, false, false, false, false, false] rfl rfl (any_of HT_.out (by kernel_rfl)) (fun _ _ _ h => h) (Or.inl ⟨by rfl, ?_⟩) ?_ ?_
                      rotate_left
                      · intro w'
                        go_simp
                        with_reducible rfl
                      rotate_left
                      · simp only [Act.put, List.setIfInBounds_toArray, List.set_cons_zero, List.set_cons_succ, i64_w, i32_w]
                        rfl
                      refine pure_ (i := 9) (N := some 45) (v := ?_) (a' := ?_) #[true, true, true, true, true, true, true, true, true, true, false, false, false, false, false, false, false] rfl rfl (any_of HT_.out (by kernel_rfl)) (fun _ _ _ h => h) (Or.inl ⟨by rfl, ?_⟩) ?_ ?_
                      rotate_left
                      · intro w'
                        go_simp
                        with_reducible rfl
                      rotate_left
                      · simp only [Act.put, List.setIfInBounds_toArray, List.set_cons_zero, List.set_cons_succ, i64_w, i32_w]
                        rfl
                      refine pure_ (i := 10) (N := some 46) (v := undef) (a' := ?_) #[true, true, true, true, true, true, true, true, true, true, true, false, false, false, false, false, false] rfl rfl (any_of HT_.out (by kernel_rfl)) (fun _ _ _ h => h) (Or.inr ⟨by rfl, rfl⟩) ?_ ?_
                      rotate_left
                      · simp only [Act.put, List.setIfInBounds_toArray, List.set_cons_zero, List.set_cons_succ, i64_w, i32_w]
                        rfl
                      refine pure_ (i := 11) (N := some 47) (v := undef) (a' := ?_) #[true, true, true, true, true, true, true, true, true, true, true, true, false, false, false, false, false] rfl rfl (any_of HT_.out (by kernel_rfl)) (fun _ _ _ h => h) (Or.inr ⟨by rfl, rfl⟩) ?_ ?_
                      rotate_left
                      · simp only [Act.put, List.setIfInBounds_toArray, List.set_cons_zero, List.set_cons_succ, i64_w, i32_w]
                        rfl
                      refine pure_ (i := 12) (N := some 48) (v := undef) (a' := ?_) #[true, true, true, true, true, true, true, true, true, true, true, true, true, false, false, false, false] rfl rfl (any_of HT_.out (by kernel_rfl)) (fun _ _ _ h => h) (Or.inr ⟨by rfl, rfl⟩) ?_ ?_
                      rotate_left
                      · simp only [Act.put, List.setIfInBounds_toArray, List.set_cons_zero, List.set_cons_succ, i64_w, i32_w]
                        rfl
                      refine pure_ (i := 13) (N := some 49) (v := undef) (a' := ?_) #[true, true, true, true, true, true, true, true, true, true, true, true, true, true, false, false, false] rfl rfl (any_of HT_.out (by kernel_rfl)) (fun _ _ _ h => h) (Or.inr ⟨by rfl, rfl⟩) ?_ ?_
                      rotate_left
                      · simp only [Act.put, List.setIfInBounds_toArray, List.set_cons_zero, List.set_cons_succ, i64_w, i32_w]
                        rfl
                      refine pure_ (i := 14) (N := some 50) (v := undef) (a' := ?_) #[true, true, true, true, true, true, true, true, true, true, true, true, true, true, true, false, false] rfl rfl (any_of HT_.out (by kernel_rfl)) (fun _ _ _ h => h) (Or.inr ⟨by rfl, rfl⟩) ?_ ?_
                      rotate_left
                      · simp only [Act.put, List.setIfInBounds_toArray, List.set_cons_zero, List.set_cons_succ, i64_w, i32_w]
                        rfl
                      refine pure_ (i := 15) (N := some 51) (v := undef) (a' := ?_) #[true, true, true, true, true, true, true, true, true, true, true, true, true, true, true, true, false] rfl rfl (any_of HT_.out (by kernel_rfl)) (fun _ _ _ h => h) (Or.inr ⟨by rfl, rfl⟩) ?_ ?_
                      rotate_left
                      · simp only [Act.put, List.setIfInBounds_toArray, List.set_cons_zero, List.set_cons_succ, i64_w, i32_w]
                        rfl
                      refine pure_ (i := 16) (N := some 52) (v := ?_) (a' := ?_) #[true, true, true, true, true, true, true, true, true, true, true, true, true, true, true, true, true] rfl rfl (any_of HT_.out (by kernel_rfl)) (fun _ _ _ h => h) (Or.inl ⟨by rfl, ?_⟩) ?_ ?_
                      rotate_left
                      · intro w'
                        go_simp
                        with_reducible rfl
                      rotate_left
                      · simp only [Act.put, List.setIfInBounds_toArray, List.set_cons_zero, List.set_cons_succ, i64_w, i32_w]
                        rfl
                      refine done_ (done_of HT_.out (by kernel_rfl)) ?_
                      try go_wp2
                      go_meet
                      case rel => exact ⟨_, (true), (by first | rfl | (simp; done) | (simp [*]; done)), H', ⟨by have := HJ4.out; have := HK2.out; first | omega | exact Nat.le_refl _⟩, ⟨by (with_reducible repeat (first | apply Kd.R_alloc | apply Kd.R_drewN | apply Kd.R_drew)); exact HO_5.out⟩, ⟨by (with_reducible repeat (first | apply Kd.R_alloc | apply Kd.R_drewN | apply Kd.R_drew)); exact HO_6.out⟩, ⟨by repeat (first | (with_reducible first | exact HB.out | apply below_alloc | apply pw_below_drewN | apply below_drew1) | exact HB.out)⟩⟩
                    · rw [if_neg c24] at H
                      have c24b0 : (!(((rd_T55 t249 x8_2).f0) == ((rd_T55 t252 x8_2).f0)) || (!(((rd_T55 t249 x8_2).f1) == ((rd_T55 t252 x8_2).f1)) || (!(((rd_T55 t249 x8_2).f2) == ((rd_T55 t252 x8_2).f2)) || (!(((rd_T55 t249 x8_2).f3) == ((rd_T55 t252 x8_2).f3)) || (!(((rd_T55 t249 x8_2).f4) == ((rd_T55 t252 x8_2).f4)) || (!(((rd_T55 t249 x8_2).f5) == ((rd_T55 t252 x8_2).f5)) || (!(((rd_T55 t249 x8_2).f6) == ((rd_T55 t252 x8_2).f6)) || (!(((rd_T55 t249 x8_2).f7) == ((rd_T55 t252 x8_2).f7)))))))))) = false := by simpa using c24
                      clear c24
                      replace H := Option.bind_eq_some_iff.mp H
                      obtain ⟨t259, A270, H⟩ := H
                      replace H : (pianolalaw12_EncodeLoads.j2 k2 a1 t249 t252 x7_2 x8_2 (!t259)) = some r := H
                      have A27 := Aside0.mk A270
                      clear A270
                      have H' := Aside0.mk H
                      clear H
                      try go_wp2
                      have n0_ := Aside0.mk (Kd.R_drew HO_5.out)
                      have n1_ := Aside0.mk (Kd.R_drew HO_6.out)
                      have n2_ := Aside0.mk (below_drew1 HB.out)
                      clear HO_5
                      clear HO_6
                      clear HB
                      have HO_5 := n0_
                      have HO_6 := n1_
                      have HB := n2_
                      clear n0_ n1_ n2_
                      have p256 : 0 ≤ (x8_2 : Int) := of_decide_eq_true (by first | (with_reducible assumption) | assumption)
                      have q256 : x8_2 < (t249.length : Int) := of_decide_eq_true (by first | (with_reducible assumption) | assumption)
                      obtain ⟨ad256, e256, hx256_0, hx256_1, hx256_2, hx256_3, hx256_4, hx256_5, hx256_6, hx256_7⟩ := at_T55 (Kd.R_reads' HO_5.out).2.2 x8_2 p256 q256
                      cases e256
                      replace p256 := eq_true p256
                      replace q256 := eq_true q256
                      obtain ⟨Ao29, co29, eo29⟩ := Kd.R_slice HO_6.out
                      (first | subst eo29 | (injection eo29 with f1_ f2_ f3_; have f4_ := f1_.symm; have f5_ := f3_.symm; clear f1_ f2_ f3_; subst f4_; subst f5_))
                      have p257 : 0 ≤ (x8_2 : Int) := of_decide_eq_true (by first | (with_reducible assumption) | assumption)
                      have q257 : x8_2 < (t252.length : Int) := of_decide_eq_true (by first | (with_reducible assumption) | assumption)
                      obtain ⟨ad257, e257, hx257_0, hx257_1, hx257_2, hx257_3, hx257_4, hx257_5, hx257_6, hx257_7⟩ := at_T55 (Kd.R_reads' HO_6.out).2.2 x8_2 p257 q257
                      cases e257
                      replace p257 := eq_true p257
                      replace q257 := eq_true q257
                      have p258 : 0 ≤ (x8_2 : Int) := of_decide_eq_true (by first | (with_reducible assumption) | assumption)
                      have q258 : x8_2 < (t249.length : Int) := of_decide_eq_true (by first | (with_reducible assumption) | assumption)
                      obtain ⟨ad258, e258, hx258_0, hx258_1, hx258_2, hx258_3, hx258_4, hx258_5, hx258_6, hx258_7⟩ := at_T55 (Kd.R_reads' HO_5.out).2.2 x8_2 p258 q258
                      obtain rfl : ad256 = ad258 := (by injection e258)
                      replace p258 := eq_true p258
                      replace q258 := eq_true q258
                      refine start_ (n := 17) (S := fun w' => w'.cell? (ad256.add ((x8_2).toNat * 8)) = some (.int .i64 ((rd_T55 t249 x8_2).f0)) ∧ w'.cell? ⟨(ad256.add ((x8_2).toNat * 8)).block, (ad256.add ((x8_2).toNat * 8)).off + 1, none⟩ = some (.int .i64 ((rd_T55 t249 x8_2).f1)) ∧ w'.cell? ⟨(ad256.add ((x8_2).toNat * 8)).block, (ad256.add ((x8_2).toNat * 8)).off + 2, none⟩ = some (.int .i64 ((rd_T55 t249 x8_2).f2)) ∧ w'.cell? ⟨(ad256.add ((x8_2).toNat * 8)).block, (ad256.add ((x8_2).toNat * 8)).off + 3, none⟩ = some (.int .i64 ((rd_T55 t249 x8_2).f3)) ∧ w'.cell? ⟨(ad256.add ((x8_2).toNat * 8)).block, (ad256.add ((x8_2).toNat * 8)).off + 4, none⟩ = some (.int .i64 ((rd_T55 t249 x8_2).f4)) ∧ w'.cell? ⟨(ad256.add ((x8_2).toNat * 8)).block, (ad256.add ((x8_2).toNat * 8)).off + 5, none⟩ = some (.int .i64 ((rd_T55 t249 x8_2).f5)) ∧ w'.cell? ⟨(ad256.add ((x8_2).toNat * 8)).block, (ad256.add ((x8_2).toNat * 8)).off + 6, none⟩ = some (.int .i64 ((rd_T55 t249 x8_2).f6)) ∧ w'.cell? ⟨(ad256.add ((x8_2).toNat * 8)).block, (ad256.add ((x8_2).toNat * 8)).off + 7, none⟩ = some (.int .i64 ((rd_T55 t249 x8_2).f7)) ∧ w'.cell? (ad257.add ((x8_2).toNat * 8)) = some (.int .i64 ((rd_T55 t252 x8_2).f0)) ∧ w'.cell? ⟨(ad257.add ((x8_2).toNat * 8)).block, (ad257.add ((x8_2).toNat * 8)).off + 1, none⟩ = some (.int .i64 ((rd_T55 t252 x8_2).f1)) ∧ w'.cell? ⟨(ad257.add ((x8_2).toNat * 8)).block, (ad257.add ((x8_2).toNat * 8)).off + 2, none⟩ = some (.int .i64 ((rd_T55 t252 x8_2).f2)) ∧ w'.cell? ⟨(ad257.add ((x8_2).toNat * 8)).block, (ad257.add ((x8_2).toNat * 8)).off + 3, none⟩ = some (.int .i64 ((rd_T55 t252 x8_2).f3)) ∧ w'.cell? ⟨(ad257.add ((x8_2).toNat * 8)).block, (ad257.add ((x8_2).toNat * 8)).off + 4, none⟩ = some (.int .i64 ((rd_T55 t252 x8_2).f4)) ∧ w'.cell? ⟨(ad257.add ((x8_2).toNat * 8)).block, (ad257.add ((x8_2).toNat * 8)).off + 5, none⟩ = some (.int .i64 ((rd_T55 t252 x8_2).f5)) ∧ w'.cell? ⟨(ad257.add ((x8_2).toNat * 8)).block, (ad257.add ((x8_2).toNat * 8)).off + 6, none⟩ = some (.int .i64 ((rd_T55 t252 x8_2).f6)) ∧ w'.cell? ⟨(ad257.add ((x8_2).toNat * 8)).block, (ad257.add ((x8_2).toNat * 8)).off + 7, none⟩ = some (.int .i64 ((rd_T55 t252 x8_2).f7)) ∧ w'.cell? (ad256.add ((x8_2).toNat * 8)) = some (.int .i64 ((rd_T55 t249 x8_2).f0)) ∧ w'.cell? ⟨(ad256.add ((x8_2).toNat * 8)).block, (ad256.add ((x8_2).toNat * 8)).off + 1, none⟩ = some (.int .i64 ((rd_T55 t249 x8_2).f1)) ∧ w'.cell? ⟨(ad256.add ((x8_2).toNat * 8)).block, (ad256.add ((x8_2).toNat * 8)).off + 2, none⟩ = some (.int .i64 ((rd_T55 t249 x8_2).f2)) ∧ w'.cell? ⟨(ad256.add ((x8_2).toNat * 8)).block, (ad256.add ((x8_2).toNat * 8)).off + 3, none⟩ = some (.int .i64 ((rd_T55 t249 x8_2).f3)) ∧ w'.cell? ⟨(ad256.add ((x8_2).toNat * 8)).block, (ad256.add ((x8_2).toNat * 8)).off + 4, none⟩ = some (.int .i64 ((rd_T55 t249 x8_2).f4)) ∧ w'.cell? ⟨(ad256.add ((x8_2).toNat * 8)).block, (ad256.add ((x8_2).toNat * 8)).off + 5, none⟩ = some (.int .i64 ((rd_T55 t249 x8_2).f5)) ∧ w'.cell? ⟨(ad256.add ((x8_2).toNat * 8)).block, (ad256.add ((x8_2).toNat * 8)).off + 6, none⟩ = some (.int .i64 ((rd_T55 t249 x8_2).f6)) ∧ w'.cell? ⟨(ad256.add ((x8_2).toNat * 8)).block, (ad256.add ((x8_2).toNat * 8)).off + 7, none⟩ = some (.int .i64 ((rd_T55 t249 x8_2).f7))) (ds := []) #[false, false, false, false, false, false, false, false, false, false, false, false, false, false, false, false, false] (by kernel_rfl) rfl rfl ⟨hx256_0, hx256_1, hx256_2, hx256_3, hx256_4, hx256_5, hx256_6, hx256_7, hx257_0, hx257_1, hx257_2, hx257_3, hx257_4, hx257_5, hx257_6, hx257_7, hx258_0, hx258_1, hx258_2, hx258_3, hx258_4, hx258_5, hx258_6, hx258_7⟩ (fun hHeld => ?_); refine with_tabW pianolalaw12_EncodeLoads.tab8 pianolalaw12_EncodeLoads.bits8 (fun HT_ HW_ => ?_)
                      generalize wr.drew = w28 at HO_5 HO_6 HB hx256_0 hx256_1 hx256_2 hx256_3 hx256_4 hx256_5 hx256_6 hx256_7 hx257_0 hx257_1 hx257_2 hx257_3 hx257_4 hx257_5 hx257_6 hx257_7 hx258_0 hx258_1 hx258_2 hx258_3 hx258_4 hx258_5 hx258_6 hx258_7 hHeld ⊢
                      refine pure_ (i := 0) (N := some 36) (v := ?_) (a' := ?_) #[true, false, false, false, false, false, false, false, false, false, false, false, false, false, false, false, false] rfl rfl (any_of HT_.out (by kernel_rfl)) (fun _ _ _ h => h) (Or.inl ⟨by rfl, ?_⟩) ?_ ?_
                      rotate_left
                      · intro w'
                        go_simp
                        with_reducible rfl
                      rotate_left
                      · simp only [Act.put, List.setIfInBounds_toArray, List.set_cons_zero, List.set_cons_succ, i64_w, i32_w]
                        rfl
                      refine pure_ (i := 1) (N := some 37) (v := ?_) (a' := ?_) #[true, true, false, false, false, false, false, false, false, false, false, false, false, false, false, false, false] rfl rfl (any_of HT_.out (by kernel_rfl)) (fun _ _ _ h => h) (Or.inl ⟨by rfl, ?_⟩) ?_ ?_
                      rotate_left
                      · intro w'
                        go_simp
                        with_reducible rfl
                      rotate_left
                      · simp only [Act.put, List.setIfInBounds_toArray, List.set_cons_zero, List.set_cons_succ, i64_w, i32_w]
                        rfl
                      refine pure_ (i := 2) (N := some 38) (v := ?_) (a' := ?_) #[true, true, true, false, false, false, false, false, false, false, false, false, false, false, false, false, false] rfl rfl (any_of HT_.out (by kernel_rfl)) (fun _ _ _ h => h) (Or.inl ⟨by rfl, ?_⟩) ?_ ?_
                      rotate_left
                      · intro w'
                        go_simp
                        with_reducible rfl
                      rotate_left
                      · simp only [Act.put, List.setIfInBounds_toArray, List.set_cons_zero, List.set_cons_succ, i64_w, i32_w]
                        rfl
                      refine pure_ (i := 4) (N := some 40) (v := ?_) (a' := ?_) #[true, true, true, false, true, false, false, false, false, false, false, false, false, false, false, false, false] rfl rfl (any_of HT_.out (by kernel_rfl)) (fun _ _ _ h => h) (Or.inl ⟨by rfl, ?_⟩) ?_ ?_
                      rotate_left
                      · intro w'
                        go_simp
                        with_reducible rfl
                      rotate_left
                      · simp only [Act.put, List.setIfInBounds_toArray, List.set_cons_zero, List.set_cons_succ, i64_w, i32_w]
                        rfl
                      refine pure_ (i := 5) (N := some 41) (v := ?_) (a' := ?_) #[true, true, true, false, true, true, false, false, false, false, false, false, false, false, false, false, false] rfl rfl (any_of HT_.out (by kernel_rfl)) (fun _ _ _ h => h) (Or.inl ⟨by rfl, ?_⟩) ?_ ?_
                      rotate_left
                      · intro w'
                        go_simp
                        with_reducible rfl
                      rotate_left
                      · simp only [Act.put, List.setIfInBounds_toArray, List.set_cons_zero, List.set_cons_succ, i64_w, i32_w]
                        rfl
                      refine pure_ (i := 6) (N := some 42) (v := ?_) (a' := ?_) #[true, true, true, false, true, true, true, false, false, false, false, false, false, false, false, false, false] rfl rfl (any_of HT_.out (by kernel_rfl)) (fun _ _ _ h => h) (Or.inl ⟨by rfl, ?_⟩) ?_ ?_
                      rotate_left
                      · intro w'
                        go_simp
                        with_reducible rfl
                      rotate_left
                      · simp only [Act.put, List.setIfInBounds_toArray, List.set_cons_zero, List.set_cons_succ, i64_w, i32_w]
                        rfl
                      refine take_ (i := 3) (N := some 39) (v := ?_) (a' := ?_) #[true, true, true, true, true, true, true, false, false, false, false, false, false, false, false, false, false] rfl rfl (take_ofW HT_.out HW_.out (by kernel_rfl)) (fun _ _ _ h => h) (Or.inl ⟨by rfl, ?_⟩) hHeld ?_ ?_
                      rotate_left
                      · rintro w' ⟨s0, s1, s2, s3, s4, s5, s6, s7, s8, s9, s10, s11, s12, s13, s14, s15, s16, s17, s18, s19, s20, s21, s22, s23⟩
                        go_simp
                        with_reducible rfl
                      rotate_left
                      · simp only [Act.put, List.setIfInBounds_toArray, List.set_cons_zero, List.set_cons_succ, i64_w, i32_w]
                        rfl
                      refine take_ (i := 7) (N := some 43) (v := ?_) (a' := ?_) #[true, true, true, true, true, true, true, true, false, false, false, false, false, false, false, false, false] rfl rfl (take_ofW HT_.out HW_.out (by kernel_rfl)) (fun _ _ _ h => h) (Or.inl ⟨by rfl, ?_⟩) hHeld ?_ ?_
                      rotate_left
                      · rintro w' ⟨s0, s1, s2, s3, s4, s5, s6, s7, s8, s9, s10, s11, s12, s13, s14, s15, s16, s17, s18, s19, s20, s21, s22, s23⟩
                        go_simp
                        with_reducible rfl
                      rotate_left
                      · simp only [Act.put, List.setIfInBounds_toArray, List.set_cons_zero, List.set_cons_succ, i64_w, i32_w]
                        rfl
                      refine pure_ (i := 8) (N := some 44) (v := ?_) (a' := ?_) #[true, true, true, true, true, true, true, true, true, false, false, false, false, false, false, false, false] rfl rfl (any_of HT_.out (by kernel_rfl)) (fun _ _ _ h => h) (Or.inl ⟨by rfl, ?_⟩) ?_ ?_
                      rotate_left
                      · intro w'
                        go_simp
                        with_reducible rfl
                      rotate_left
                      · simp only [Act.put, List.setIfInBounds_toArray, List.set_cons_zero, List.set_cons_succ, i64_w, i32_w]
                        rfl
                      refine pure_ (i := 9) (N := some 45) (v := ?_) (a' := ?_) #[true, true, true, true, true, true, true, true, true, true, false, false, false, false, false, false, false] rfl rfl (any_of HT_.out (by kernel_rfl)) (fun _ _ _ h => h) (Or.inl ⟨by rfl, ?_⟩) ?_ ?_
                      rotate_left
                      · intro w'
                        go_simp
                        with_reducible rfl
                      rotate_left
                      · simp only [Act.put, List.setIfInBounds_toArray, List.set_cons_zero, List.set_cons_succ, i64_w, i32_w]
                        rfl
                      refine pure_ (i := 10) (N := some 46) (v := ?_) (a' := ?_) #[true, true, true, true, true, true, true, true, true, true, true, false, false, false, false, false, false] rfl rfl (any_of HT_.out (by kernel_rfl)) (fun _ _ _ h => h) (Or.inl ⟨by rfl, ?_⟩) ?_ ?_
                      rotate_left
                      · intro w'
                        go_simp
                        with_reducible rfl
                      rotate_left
                      · simp only [Act.put, List.setIfInBounds_toArray, List.set_cons_zero, List.set_cons_succ, i64_w, i32_w]
                        rfl
                      refine pure_ (i := 11) (N := some 47) (v := ?_) (a' := ?_) #[true, true, true, true, true, true, true, true, true, true, true, true, false, false, false, false, false] rfl rfl (any_of HT_.out (by kernel_rfl)) (fun _ _ _ h => h) (Or.inl ⟨by rfl, ?_⟩) ?_ ?_
                      rotate_left
                      · intro w'
                        go_simp
                        with_reducible rfl
                      rotate_left
                      · simp only [Act.put, List.setIfInBounds_toArray, List.set_cons_zero, List.set_cons_succ, i64_w, i32_w]
                        rfl
                      refine pure_ (i := 12) (N := some 48) (v := ?_) (a' := ?_) #[true, true, true, true, true, true, true, true, true, true, true, true, true, false, false, false, false] rfl rfl (any_of HT_.out (by kernel_rfl)) (fun _ _ _ h => h) (Or.inl ⟨by rfl, ?_⟩) ?_ ?_
                      rotate_left
                      · intro w'
                        go_simp
                        with_reducible rfl
                      rotate_left
                      · simp only [Act.put, List.setIfInBounds_toArray, List.set_cons_zero, List.set_cons_succ, i64_w, i32_w]
                        rfl
                      refine take_ (i := 13) (N := some 49) (v := ?_) (a' := ?_) #[true, true, true, true, true, true, true, true, true, true, true, true, true, true, false, false, false] rfl rfl (take_ofW HT_.out HW_.out (by kernel_rfl)) (fun _ _ _ h => h) (Or.inl ⟨by rfl, ?_⟩) hHeld ?_ ?_
                      rotate_left
                      · rintro w' ⟨s0, s1, s2, s3, s4, s5, s6, s7, s8, s9, s10, s11, s12, s13, s14, s15, s16, s17, s18, s19, s20, s21, s22, s23⟩
                        go_simp
                        with_reducible rfl
                      rotate_left
                      · simp only [Act.put, List.setIfInBounds_toArray, List.set_cons_zero, List.set_cons_succ, i64_w, i32_w]
                        rfl
                      refine one_ (i := 14) (N := some 50) #[true, true, true, true, true, true, true, true, true, true, true, true, true, true, true, false, false] rfl rfl (one_of HT_.out (by kernel_rfl)) (by decide) (fun K hK => ?_)
                      refine goes_ Try.func37 (by kernel_rfl) rfl #[.agg #[.int .i64 ((rd_T55 t249 x8_2).f0), .int .i64 ((rd_T55 t249 x8_2).f1), .int .i64 ((rd_T55 t249 x8_2).f2), .int .i64 ((rd_T55 t249 x8_2).f3), .int .i64 ((rd_T55 t249 x8_2).f4), .int .i64 ((rd_T55 t249 x8_2).f5), .int .i64 ((rd_T55 t249 x8_2).f6), .int .i64 ((rd_T55 t249 x8_2).f7)]] (by rfl) rfl rfl (by (try simp only [List.map_toArray, List.map_cons, List.map_nil]); first | done | rfl | (simp only [List.length_drop, List.length_take]; rfl)) ?_
                      with_reducible refine (encode_May.calls ((rd_T55 t249 x8_2).f0) ((rd_T55 t249 x8_2).f1) ((rd_T55 t249 x8_2).f2) ((rd_T55 t249 x8_2).f3) ((rd_T55 t249 x8_2).f4) ((rd_T55 t249 x8_2).f5) ((rd_T55 t249 x8_2).f6) ((rd_T55 t249 x8_2).f7) t259 _ A27.out).mono ?_
                      rintro e w30 ⟨rfl, hb⟩
                      have HS0_ := (hb.cell (World.block_lt_of_cell? _ _ (hHeld.1))).trans (hHeld.1)
                      have HS1_ := (hb.cell (World.block_lt_of_cell? _ _ (hHeld.2.1))).trans (hHeld.2.1)
                      have HS2_ := (hb.cell (World.block_lt_of_cell? _ _ (hHeld.2.2.1))).trans (hHeld.2.2.1)
                      have HS3_ := (hb.cell (World.block_lt_of_cell? _ _ (hHeld.2.2.2.1))).trans (hHeld.2.2.2.1)
                      have HS4_ := (hb.cell (World.block_lt_of_cell? _ _ (hHeld.2.2.2.2.1))).trans (hHeld.2.2.2.2.1)
                      have HS5_ := (hb.cell (World.block_lt_of_cell? _ _ (hHeld.2.2.2.2.2.1))).trans (hHeld.2.2.2.2.2.1)
                      have HS6_ := (hb.cell (World.block_lt_of_cell? _ _ (hHeld.2.2.2.2.2.2.1))).trans (hHeld.2.2.2.2.2.2.1)
                      have HS7_ := (hb.cell (World.block_lt_of_cell? _ _ (hHeld.2.2.2.2.2.2.2.1))).trans (hHeld.2.2.2.2.2.2.2.1)
                      have HS8_ := (hb.cell (World.block_lt_of_cell? _ _ (hHeld.2.2.2.2.2.2.2.2.1))).trans (hHeld.2.2.2.2.2.2.2.2.1)
                      have HS9_ := (hb.cell (World.block_lt_of_cell? _ _ (hHeld.2.2.2.2.2.2.2.2.2.1))).trans (hHeld.2.2.2.2.2.2.2.2.2.1)
                      have HS10_ := (hb.cell (World.block_lt_of_cell? _ _ (hHeld.2.2.2.2.2.2.2.2.2.2.1))).trans (hHeld.2.2.2.2.2.2.2.2.2.2.1)
                      have HS11_ := (hb.cell (World.block_lt_of_cell? _ _ (hHeld.2.2.2.2.2.2.2.2.2.2.2.1))).trans (hHeld.2.2.2.2.2.2.2.2.2.2.2.1)
                      have HS12_ := (hb.cell (World.block_lt_of_cell? _ _ (hHeld.2.2.2.2.2.2.2.2.2.2.2.2.1))).trans (hHeld.2.2.2.2.2.2.2.2.2.2.2.2.1)
                      have HS13_ := (hb.cell (World.block_lt_of_cell? _ _ (hHeld.2.2.2.2.2.2.2.2.2.2.2.2.2.1))).trans (hHeld.2.2.2.2.2.2.2.2.2.2.2.2.2.1)
                      have HS14_ := (hb.cell (World.block_lt_of_cell? _ _ (hHeld.2.2.2.2.2.2.2.2.2.2.2.2.2.2.1))).trans (hHeld.2.2.2.2.2.2.2.2.2.2.2.2.2.2.1)
                      have HS15_ := (hb.cell (World.block_lt_of_cell? _ _ (hHeld.2.2.2.2.2.2.2.2.2.2.2.2.2.2.2.1))).trans (hHeld.2.2.2.2.2.2.2.2.2.2.2.2.2.2.2.1)
                      have HS16_ := (hb.cell (World.block_lt_of_cell? _ _ (hHeld.2.2.2.2.2.2.2.2.2.2.2.2.2.2.2.2.1))).trans (hHeld.2.2.2.2.2.2.2.2.2.2.2.2.2.2.2.2.1)
                      have HS17_ := (hb.cell (World.block_lt_of_cell? _ _ (hHeld.2.2.2.2.2.2.2.2.2.2.2.2.2.2.2.2.2.1))).trans (hHeld.2.2.2.2.2.2.2.2.2.2.2.2.2.2.2.2.2.1)
                      have HS18_ := (hb.cell (World.block_lt_of_cell? _ _ (hHeld.2.2.2.2.2.2.2.2.2.2.2.2.2.2.2.2.2.2.1))).trans (hHeld.2.2.2.2.2.2.2.2.2.2.2.2.2.2.2.2.2.2.1)
                      have HS19_ := (hb.cell (World.block_lt_of_cell? _ _ (hHeld.2.2.2.2.2.2.2.2.2.2.2.2.2.2.2.2.2.2.2.1))).trans (hHeld.2.2.2.2.2.2.2.2.2.2.2.2.2.2.2.2.2.2.2.1)
                      have HS20_ := (hb.cell (World.block_lt_of_cell? _ _ (hHeld.2.2.2.2.2.2.2.2.2.2.2.2.2.2.2.2.2.2.2.2.1))).trans (hHeld.2.2.2.2.2.2.2.2.2.2.2.2.2.2.2.2.2.2.2.2.1)
                      have HS21_ := (hb.cell (World.block_lt_of_cell? _ _ (hHeld.2.2.2.2.2.2.2.2.2.2.2.2.2.2.2.2.2.2.2.2.2.1))).trans (hHeld.2.2.2.2.2.2.2.2.2.2.2.2.2.2.2.2.2.2.2.2.2.1)
                      have HS22_ := (hb.cell (World.block_lt_of_cell? _ _ (hHeld.2.2.2.2.2.2.2.2.2.2.2.2.2.2.2.2.2.2.2.2.2.2.1))).trans (hHeld.2.2.2.2.2.2.2.2.2.2.2.2.2.2.2.2.2.2.2.2.2.2.1)
                      have HS23_ := (hb.cell (World.block_lt_of_cell? _ _ (hHeld.2.2.2.2.2.2.2.2.2.2.2.2.2.2.2.2.2.2.2.2.2.2.2))).trans (hHeld.2.2.2.2.2.2.2.2.2.2.2.2.2.2.2.2.2.2.2.2.2.2.2)
                      refine ⟨_, rfl, ?_⟩
                      have n0_ := Aside0.mk (Kd.R_below (by (with_reducible repeat (first | apply Kd.R_alloc | apply Kd.R_drewN | apply Kd.R_drew)); exact HO_5.out) hb)
                      have n1_ := Aside0.mk (Kd.R_below (by (with_reducible repeat (first | apply Kd.R_alloc | apply Kd.R_drewN | apply Kd.R_drew)); exact HO_6.out) hb)
                      have n2_ := Aside0.mk (below_step (by repeat (first | (with_reducible first | exact HB.out | apply below_alloc | apply pw_below_drewN | apply below_drew1) | exact HB.out)) hb)
                      clear HO_5
                      clear HO_6
                      clear HB
                      have HO_5 := n0_
                      have HO_6 := n1_
                      have HB := n2_
                      clear n0_ n1_ n2_
                      (try clear hb)
                      (try clear hb2)
                      (try clear hk)
                      (try clear hi)
                      refine hK.out _ _ ⟨HS0_, HS1_, HS2_, HS3_, HS4_, HS5_, HS6_, HS7_, HS8_, HS9_, HS10_, HS11_, HS12_, HS13_, HS14_, HS15_, HS16_, HS17_, HS18_, HS19_, HS20_, HS21_, HS22_, HS23_⟩ (fun hHeld => ?_)
                      clear hK K
                      refine norm_ (a' := ?_) ?_ ?_
                      rotate_left
                      · show Act.put _ (some 50) _ = _
                        simp only [Act.put, List.setIfInBounds_toArray, List.set_cons_zero, List.set_cons_succ, i64_w, i32_w]
                        rfl
                      refine pure_ (i := 15) (N := some 51) (v := ?_) (a' := ?_) #[true, true, true, true, true, true, true, true, true, true, true, true, true, true, true, true, false] rfl rfl (any_of HT_.out (by kernel_rfl)) (fun _ _ _ h => h) (Or.inl ⟨by rfl, ?_⟩) ?_ ?_
                      rotate_left
                      · intro w'
                        go_simp
                        with_reducible rfl
                      rotate_left
                      · simp only [Act.put, List.setIfInBounds_toArray, List.set_cons_zero, List.set_cons_succ, i64_w, i32_w]
                        rfl
                      refine pure_ (i := 16) (N := some 52) (v := ?_) (a' := ?_) #[true, true, true, true, true, true, true, true, true, true, true, true, true, true, true, true, true] rfl rfl (any_of HT_.out (by kernel_rfl)) (fun _ _ _ h => h) (Or.inl ⟨by rfl, ?_⟩) ?_ ?_
                      rotate_left
                      · intro w'
                        go_simp
                        with_reducible rfl
                      rotate_left
                      · simp only [Act.put, List.setIfInBounds_toArray, List.set_cons_zero, List.set_cons_succ, i64_w, i32_w]
                        rfl
                      refine done_ (done_of HT_.out (by kernel_rfl)) ?_
                      try go_wp2
                      go_meet
                      case rel => exact ⟨_, (!t259), (by first | rfl | (simp; done) | (simp [*]; done)), H', ⟨by have := HJ4.out; have := HK2.out; first | omega | exact Nat.le_refl _⟩, ⟨by (with_reducible repeat (first | apply Kd.R_alloc | apply Kd.R_drewN | apply Kd.R_drew)); exact HO_5.out⟩, ⟨by (with_reducible repeat (first | apply Kd.R_alloc | apply Kd.R_drewN | apply Kd.R_drew)); exact HO_6.out⟩, ⟨by repeat (first | (with_reducible first | exact HB.out | apply below_alloc | apply pw_below_drewN | apply below_drew1) | exact HB.out)⟩⟩
                  · rw [if_neg c23] at H
                    exact absurd H (by simp)
                · rw [if_neg c22] at H
                  exact absurd H (by simp)
              case rest =>
                clear HC20
                try clear c1
                try clear c2
                try clear p2
                try clear q2
                try clear hx2
                try clear c3
                try clear c9
                try clear c10
                try clear c10b0
                try clear c10b1
                try clear c10b2
                try clear c18
                try clear c19
                try clear c19b0
                try clear c22
                try clear c22b0
                try clear c23
                try clear c23b0
                try clear c24
                try clear c24b0
                try clear p25
                try clear q25
                try clear hx25
                try clear hx256_0
                try clear hx256_1
                try clear hx256_2
                try clear hx256_3
                try clear hx256_4
                try clear hx256_5
                try clear hx256_6
                try clear hx256_7
                try clear hx257_0
                try clear hx257_1
                try clear hx257_2
                try clear hx257_3
                try clear hx257_4
                try clear hx257_5
                try clear hx257_6
                try clear hx257_7
                try clear hx258_0
                try clear hx258_1
                try clear hx258_2
                try clear hx258_3
                try clear hx258_4
                try clear hx258_5
                try clear hx258_6
                try clear hx258_7
                try clear p2
                try clear p256
                try clear p257
                try clear p258
                try clear q256
                try clear q257
                try clear q258
                obtain ⟨kq, x52_19, rfl, HA, HJ19, HO_5, HO_6, HB⟩ := hcut
                cases kq with
                | zero => exact absurd HA.out (by simp [pianolalaw12_EncodeLoads.j2])
                | succ kj19 =>
                  have H := HA.out
                  clear HA
                  simp only [pianolalaw12_EncodeLoads.j2] at H
                  by_cases c31 : x52_19 = true
                  · subst c31
                    have H1 : (some false) = some r := by rw [if_pos rfl] at H; exact H
                    clear H
                    have H := H1
                    clear H1
                    obtain rfl := Option.some.inj H
                    go_wp2
                    go_ret
                    exact ⟨by first | rfl | (simp [errW_none, errW_some] <;> rfl) | (simp [*, errW_none, errW_some] <;> rfl), by repeat (first | (with_reducible first | exact HB.out | apply below_alloc | apply pw_below_drewN | apply below_drew1) | exact HB.out)⟩
                  · replace c31 := Bool.eq_false_iff.mpr c31
                    subst c31
                    have H1 : (if 0 ≤ x8_2 then (if x8_2 < (t249.length : Int) then (if 0 ≤ (wrap64 (16 * ((rd_T55 t249 x8_2).f6))) then (if ((rd_T55 t249 x8_2).f0) = 16 then (pianolalaw12_EncodeLoads.l0 kj19 a1 t249 t252 (shl .u64 (IntKind.u64.wrap ((rd_T55 t249 x8_2).f5)) (wrap64 (16 * ((rd_T55 t249 x8_2).f6)))) (wrap64 (x8_2 + 1))) else (if ((rd_T55 t249 x8_2).f0) = 18 then (pianolalaw12_EncodeLoads.l0 kj19 a1 t249 t252 (Go.bits .xor .u64 18446744073709551615 (shl .u64 (IntKind.u64.wrap ((rd_T55 t249 x8_2).f5)) (wrap64 (16 * ((rd_T55 t249 x8_2).f6))))) (wrap64 (x8_2 + 1))) else (pianolalaw12_EncodeLoads.l0 kj19 a1 t249 t252 (Go.bits .or .u64 (Go.bits .andNot .u64 x7_2 (shl .u64 65535 (wrap64 (16 * ((rd_T55 t249 x8_2).f6))))) (shl .u64 (IntKind.u64.wrap ((rd_T55 t249 x8_2).f5)) (wrap64 (16 * ((rd_T55 t249 x8_2).f6))))) (wrap64 (x8_2 + 1))))) else (none)) else (none)) else (none)) = some r := by rw [if_neg (show ¬ (false = true) by decide)] at H; exact H
                    clear H
                    have H := H1
                    clear H1
                    by_cases c32 : 0 ≤ x8_2
                    · rw [if_pos c32] at H
                      have c32b0 : decide (0 ≤ x8_2) = true := decide_eq_true c32
                      clear c32
                      by_cases c33 : x8_2 < (t249.length : Int)
                      · rw [if_pos c33] at H
                        have c33b0 : decide (x8_2 < (t249.length : Int)) = true := decide_eq_true c33
                        clear c33
                        obtain ⟨ji34, hji34⟩ : ∃ j_ : Int, (wrap64 (16 * ((rd_T55 t249 x8_2).f6))) = j_ := ⟨_, rfl⟩
                        replace H : (if 0 ≤ (ji34) then (if ((rd_T55 t249 x8_2).f0) = 16 then (pianolalaw12_EncodeLoads.l0 kj19 a1 t249 t252 (shl .u64 (IntKind.u64.wrap ((rd_T55 t249 x8_2).f5)) (ji34)) (wrap64 (x8_2 + 1))) else (if ((rd_T55 t249 x8_2).f0) = 18 then (pianolalaw12_EncodeLoads.l0 kj19 a1 t249 t252 (Go.bits .xor .u64 18446744073709551615 (shl .u64 (IntKind.u64.wrap ((rd_T55 t249 x8_2).f5)) (ji34))) (wrap64 (x8_2 + 1))) else (pianolalaw12_EncodeLoads.l0 kj19 a1 t249 t252 (Go.bits .or .u64 (Go.bits .andNot .u64 x7_2 (shl .u64 65535 (ji34))) (shl .u64 (IntKind.u64.wrap ((rd_T55 t249 x8_2).f5)) (ji34))) (wrap64 (x8_2 + 1))))) else (none)) = some r := by first | (rw [hji34] at H; exact H) | (simp only [hji34] at H ⊢; exact H)
                        have hji34w : (IntKind.i64.wrap (16 * ((rd_T55 t249 x8_2).f6))) = ji34 := (i64_w _).trans hji34
                        by_cases c35 : 0 ≤ (ji34)
                        · rw [if_pos c35] at H
                          have c35b0 := eq_true c35
                          have c35b1 : decide (0 ≤ (ji34)) = true := decide_eq_true c35
                          clear c35
                          obtain ⟨ji36, hji36⟩ : ∃ j_ : Int, (shl .u64 (IntKind.u64.wrap ((rd_T55 t249 x8_2).f5)) (ji34)) = j_ := ⟨_, rfl⟩
                          replace H : (if ((rd_T55 t249 x8_2).f0) = 16 then (pianolalaw12_EncodeLoads.l0 kj19 a1 t249 t252 ji36 (wrap64 (x8_2 + 1))) else (if ((rd_T55 t249 x8_2).f0) = 18 then (pianolalaw12_EncodeLoads.l0 kj19 a1 t249 t252 (Go.bits .xor .u64 18446744073709551615 (ji36)) (wrap64 (x8_2 + 1))) else (pianolalaw12_EncodeLoads.l0 kj19 a1 t249 t252 (Go.bits .or .u64 (Go.bits .andNot .u64 x7_2 (shl .u64 65535 (ji34))) (ji36)) (wrap64 (x8_2 + 1))))) = some r := by first | (rw [hji36] at H; exact H) | (simp only [hji36] at H ⊢; exact H)
                          have hji36_ : (IntKind.u64.wrap ((IntKind.u64.wrap ((rd_T55 t249 x8_2).f5)) * 2 ^ min (ji34).toNat 64)) = ji36 := hji36
                          have hji36z : (ji34) ≤ 64 → (IntKind.u64.wrap ((IntKind.u64.wrap ((rd_T55 t249 x8_2).f5)) * 2 ^ (ji34).toNat)) = ji36 := shl_small hji36
                          by_cases c37 : ((rd_T55 t249 x8_2).f0) = 16
                          · rw [if_pos c37] at H
                            have c37b0 : (((rd_T55 t249 x8_2).f0) == 16) = true := beq_iff_eq.mpr c37
                            have c37b1 : (((rd_T55 t249 x8_2).f0) != 16) = false := bne_eq_false_iff_eq.mpr c37
                            clear c37
                            have H' := Aside0.mk H
                            clear H
                            try go_wp2
                            have n0_ := Aside0.mk (Kd.R_drew HO_5.out)
                            have n1_ := Aside0.mk (Kd.R_drew HO_6.out)
                            have n2_ := Aside0.mk (below_drew1 HB.out)
                            clear HO_5
                            clear HO_6
                            clear HB
                            have HO_5 := n0_
                            have HO_6 := n1_
                            have HB := n2_
                            clear n0_ n1_ n2_
                            have p260 : 0 ≤ (x8_2 : Int) := of_decide_eq_true (by first | (with_reducible assumption) | assumption)
                            have q260 : x8_2 < (t249.length : Int) := of_decide_eq_true (by first | (with_reducible assumption) | assumption)
                            obtain ⟨ad260, e260, hx260_0, hx260_1, hx260_2, hx260_3, hx260_4, hx260_5, hx260_6, hx260_7⟩ := at_T55 (Kd.R_reads' HO_5.out).2.2 x8_2 p260 q260
                            cases e260
                            replace p260 := eq_true p260
                            replace q260 := eq_true q260
                            have p261 : 0 ≤ (x8_2 : Int) := of_decide_eq_true (by first | (with_reducible assumption) | assumption)
                            have q261 : x8_2 < (t249.length : Int) := of_decide_eq_true (by first | (with_reducible assumption) | assumption)
                            obtain ⟨ad261, e261, hx261_0, hx261_1, hx261_2, hx261_3, hx261_4, hx261_5, hx261_6, hx261_7⟩ := at_T55 (Kd.R_reads' HO_5.out).2.2 x8_2 p261 q261
                            obtain rfl : ad260 = ad261 := (by injection e261)
                            replace p261 := eq_true p261
                            replace q261 := eq_true q261
                            refine start_ (n := 14) (S := fun w' => w'.cell? (ad260.add ((x8_2).toNat * 8)) = some (.int .i64 ((rd_T55 t249 x8_2).f0)) ∧ w'.cell? ⟨(ad260.add ((x8_2).toNat * 8)).block, (ad260.add ((x8_2).toNat * 8)).off + 1, none⟩ = some (.int .i64 ((rd_T55 t249 x8_2).f1)) ∧ w'.cell? ⟨(ad260.add ((x8_2).toNat * 8)).block, (ad260.add ((x8_2).toNat * 8)).off + 2, none⟩ = some (.int .i64 ((rd_T55 t249 x8_2).f2)) ∧ w'.cell? ⟨(ad260.add ((x8_2).toNat * 8)).block, (ad260.add ((x8_2).toNat * 8)).off + 3, none⟩ = some (.int .i64 ((rd_T55 t249 x8_2).f3)) ∧ w'.cell? ⟨(ad260.add ((x8_2).toNat * 8)).block, (ad260.add ((x8_2).toNat * 8)).off + 4, none⟩ = some (.int .i64 ((rd_T55 t249 x8_2).f4)) ∧ w'.cell? ⟨(ad260.add ((x8_2).toNat * 8)).block, (ad260.add ((x8_2).toNat * 8)).off + 5, none⟩ = some (.int .i64 ((rd_T55 t249 x8_2).f5)) ∧ w'.cell? ⟨(ad260.add ((x8_2).toNat * 8)).block, (ad260.add ((x8_2).toNat * 8)).off + 6, none⟩ = some (.int .i64 ((rd_T55 t249 x8_2).f6)) ∧ w'.cell? ⟨(ad260.add ((x8_2).toNat * 8)).block, (ad260.add ((x8_2).toNat * 8)).off + 7, none⟩ = some (.int .i64 ((rd_T55 t249 x8_2).f7)) ∧ w'.cell? (ad260.add ((x8_2).toNat * 8)) = some (.int .i64 ((rd_T55 t249 x8_2).f0)) ∧ w'.cell? ⟨(ad260.add ((x8_2).toNat * 8)).block, (ad260.add ((x8_2).toNat * 8)).off + 1, none⟩ = some (.int .i64 ((rd_T55 t249 x8_2).f1)) ∧ w'.cell? ⟨(ad260.add ((x8_2).toNat * 8)).block, (ad260.add ((x8_2).toNat * 8)).off + 2, none⟩ = some (.int .i64 ((rd_T55 t249 x8_2).f2)) ∧ w'.cell? ⟨(ad260.add ((x8_2).toNat * 8)).block, (ad260.add ((x8_2).toNat * 8)).off + 3, none⟩ = some (.int .i64 ((rd_T55 t249 x8_2).f3)) ∧ w'.cell? ⟨(ad260.add ((x8_2).toNat * 8)).block, (ad260.add ((x8_2).toNat * 8)).off + 4, none⟩ = some (.int .i64 ((rd_T55 t249 x8_2).f4)) ∧ w'.cell? ⟨(ad260.add ((x8_2).toNat * 8)).block, (ad260.add ((x8_2).toNat * 8)).off + 5, none⟩ = some (.int .i64 ((rd_T55 t249 x8_2).f5)) ∧ w'.cell? ⟨(ad260.add ((x8_2).toNat * 8)).block, (ad260.add ((x8_2).toNat * 8)).off + 6, none⟩ = some (.int .i64 ((rd_T55 t249 x8_2).f6)) ∧ w'.cell? ⟨(ad260.add ((x8_2).toNat * 8)).block, (ad260.add ((x8_2).toNat * 8)).off + 7, none⟩ = some (.int .i64 ((rd_T55 t249 x8_2).f7))) (ds := []) #[false, false, false, false, false, false, false, false, false, false, false, false, false, false] (by kernel_rfl) rfl rfl ⟨hx260_0, hx260_1, hx260_2, hx260_3, hx260_4, hx260_5, hx260_6, hx260_7, hx261_0, hx261_1, hx261_2, hx261_3, hx261_4, hx261_5, hx261_6, hx261_7⟩ (fun hHeld => ?_); refine with_tabW pianolalaw12_EncodeLoads.tab10 pianolalaw12_EncodeLoads.bits10 (fun HT_ HW_ => ?_)
                            generalize wc.drew = w38 at HO_5 HO_6 HB hx260_0 hx260_1 hx260_2 hx260_3 hx260_4 hx260_5 hx260_6 hx260_7 hx261_0 hx261_1 hx261_2 hx261_3 hx261_4 hx261_5 hx261_6 hx261_7 hHeld ⊢
                            refine pure_ (i := 0) (N := some 53) (v := ?_) (a' := ?_) #[true, false, false, false, false, false, false, false, false, false, false, false, false, false] rfl rfl (any_of HT_.out (by kernel_rfl)) (fun _ _ _ h => h) (Or.inl ⟨by rfl, ?_⟩) ?_ ?_
                            rotate_left
                            · intro w'
                              go_simp
                              with_reducible rfl
                            rotate_left
                            · simp only [Act.put, List.setIfInBounds_toArray, List.set_cons_zero, List.set_cons_succ, i64_w, i32_w]
                              rfl
                            refine pure_ (i := 1) (N := some 54) (v := ?_) (a' := ?_) #[true, true, false, false, false, false, false, false, false, false, false, false, false, false] rfl rfl (any_of HT_.out (by kernel_rfl)) (fun _ _ _ h => h) (Or.inl ⟨by rfl, ?_⟩) ?_ ?_
                            rotate_left
                            · intro w'
                              go_simp
                              with_reducible rfl
                            rotate_left
                            · simp only [Act.put, List.setIfInBounds_toArray, List.set_cons_zero, List.set_cons_succ, i64_w, i32_w]
                              rfl
                            refine pure_ (i := 2) (N := some 55) (v := ?_) (a' := ?_) #[true, true, true, false, false, false, false, false, false, false, false, false, false, false] rfl rfl (any_of HT_.out (by kernel_rfl)) (fun _ _ _ h => h) (Or.inl ⟨by rfl, ?_⟩) ?_ ?_
                            rotate_left
                            · intro w'
                              go_simp
                              with_reducible rfl
                            rotate_left
                            · simp only [Act.put, List.setIfInBounds_toArray, List.set_cons_zero, List.set_cons_succ, i64_w, i32_w]
                              rfl
                            refine pure_ (i := 3) (N := some 56) (v := ?_) (a' := ?_) #[true, true, true, true, false, false, false, false, false, false, false, false, false, false] rfl rfl (any_of HT_.out (by kernel_rfl)) (fun _ _ _ h => h) (Or.inl ⟨by rfl, ?_⟩) ?_ ?_
                            rotate_left
                            · intro w'
                              go_simp
                              with_reducible rfl
                            rotate_left
                            · simp only [Act.put, List.setIfInBounds_toArray, List.set_cons_zero, List.set_cons_succ, i64_w, i32_w]
                              rfl
                            refine pure_ (i := 6) (N := some 59) (v := ?_) (a' := ?_) #[true, true, true, true, false, false, true, false, false, false, false, false, false, false] rfl rfl (any_of HT_.out (by kernel_rfl)) (fun _ _ _ h => h) (Or.inl ⟨by rfl, ?_⟩) ?_ ?_
                            rotate_left
                            · intro w'
                              go_simp
                              with_reducible rfl
                            rotate_left
                            · simp only [Act.put, List.setIfInBounds_toArray, List.set_cons_zero, List.set_cons_succ, i64_w, i32_w]
                              rfl
                            refine pure_ (i := 7) (N := some 60) (v := ?_) (a' := ?_) #[true, true, true, true, false, false, true, true, false, false, false, false, false, false] rfl rfl (any_of HT_.out (by kernel_rfl)) (fun _ _ _ h => h) (Or.inl ⟨by rfl, ?_⟩) ?_ ?_
                            rotate_left
                            · intro w'
                              go_simp
                              with_reducible rfl
                            rotate_left
                            · simp only [Act.put, List.setIfInBounds_toArray, List.set_cons_zero, List.set_cons_succ, i64_w, i32_w]
                              rfl
                            refine pure_ (i := 8) (N := some 61) (v := ?_) (a' := ?_) #[true, true, true, true, false, false, true, true, true, false, false, false, false, false] rfl rfl (any_of HT_.out (by kernel_rfl)) (fun _ _ _ h => h) (Or.inl ⟨by rfl, ?_⟩) ?_ ?_
                            rotate_left
                            · intro w'
                              go_simp
                              with_reducible rfl
                            rotate_left
                            · simp only [Act.put, List.setIfInBounds_toArray, List.set_cons_zero, List.set_cons_succ, i64_w, i32_w]
                              rfl
                            refine pure_ (i := 9) (N := some 62) (v := ?_) (a' := ?_) #[true, true, true, true, false, false, true, true, true, true, false, false, false, false] rfl rfl (any_of HT_.out (by kernel_rfl)) (fun _ _ _ h => h) (Or.inl ⟨by rfl, ?_⟩) ?_ ?_
                            rotate_left
                            · intro w'
                              go_simp
                              with_reducible rfl
                            rotate_left
                            · simp only [Act.put, List.setIfInBounds_toArray, List.set_cons_zero, List.set_cons_succ, i64_w, i32_w]
                              rfl
                            refine take_ (i := 4) (N := some 57) (v := ?_) (a' := ?_) #[true, true, true, true, true, false, true, true, true, true, false, false, false, false] rfl rfl (take_ofW HT_.out HW_.out (by kernel_rfl)) (fun _ _ _ h => h) (Or.inl ⟨by rfl, ?_⟩) hHeld ?_ ?_
                            rotate_left
                            · rintro w' ⟨s0, s1, s2, s3, s4, s5, s6, s7, s8, s9, s10, s11, s12, s13, s14, s15⟩
                              go_simp
                              with_reducible rfl
                            rotate_left
                            · simp only [Act.put, List.setIfInBounds_toArray, List.set_cons_zero, List.set_cons_succ, i64_w, i32_w]
                              rfl
                            refine pure_ (i := 5) (N := some 58) (v := ?_) (a' := ?_) #[true, true, true, true, true, true, true, true, true, true, false, false, false, false] rfl rfl (any_of HT_.out (by kernel_rfl)) (fun _ _ _ h => h) (Or.inl ⟨by rfl, ?_⟩) ?_ ?_
                            rotate_left
                            · intro w'
                              go_simp
                              with_reducible rfl
                            rotate_left
                            · simp only [Act.put, List.setIfInBounds_toArray, List.set_cons_zero, List.set_cons_succ, i64_w, i32_w]
                              rfl
                            refine take_ (i := 10) (N := some 63) (v := ?_) (a' := ?_) #[true, true, true, true, true, true, true, true, true, true, true, false, false, false] rfl rfl (take_ofW HT_.out HW_.out (by kernel_rfl)) (fun _ _ _ h => h) (Or.inl ⟨by rfl, ?_⟩) hHeld ?_ ?_
                            rotate_left
                            · rintro w' ⟨s0, s1, s2, s3, s4, s5, s6, s7, s8, s9, s10, s11, s12, s13, s14, s15⟩
                              go_simp
                              with_reducible rfl
                            rotate_left
                            · simp only [Act.put, List.setIfInBounds_toArray, List.set_cons_zero, List.set_cons_succ, i64_w, i32_w]
                              rfl
                            refine pure_ (i := 11) (N := some 64) (v := ?_) (a' := ?_) #[true, true, true, true, true, true, true, true, true, true, true, true, false, false] rfl rfl (any_of HT_.out (by kernel_rfl)) (fun _ _ _ h => h) (Or.inl ⟨by rfl, ?_⟩) ?_ ?_
                            rotate_left
                            · intro w'
                              go_simp
                              with_reducible rfl
                            rotate_left
                            · simp only [Act.put, List.setIfInBounds_toArray, List.set_cons_zero, List.set_cons_succ, i64_w, i32_w]
                              rfl
                            refine pure_ (i := 12) (N := some 65) (v := ?_) (a' := ?_) #[true, true, true, true, true, true, true, true, true, true, true, true, true, false] rfl rfl (any_of HT_.out (by kernel_rfl)) (fun _ _ _ h => h) (Or.inl ⟨by rfl, ?_⟩) ?_ ?_
                            rotate_left
                            · intro w'
                              go_simp
                              with_reducible rfl
                            rotate_left
                            · simp only [Act.put, List.setIfInBounds_toArray, List.set_cons_zero, List.set_cons_succ, i64_w, i32_w]
                              rfl
                            refine pure_ (i := 13) (N := some 9) (v := ?_) (a' := ?_) #[true, true, true, true, true, true, true, true, true, true, true, true, true, true] rfl rfl (any_of HT_.out (by kernel_rfl)) (fun _ _ _ h => h) (Or.inl ⟨by rfl, ?_⟩) ?_ ?_
                            rotate_left
                            · intro w'
                              go_simp
                              with_reducible rfl
                            rotate_left
                            · simp only [Act.put, List.setIfInBounds_toArray, List.set_cons_zero, List.set_cons_succ, i64_w, i32_w]
                              rfl
                            refine done_ (done_of HT_.out (by kernel_rfl)) ?_
                            have p262 : 0 ≤ (x8_2 : Int) := of_decide_eq_true (by first | (with_reducible assumption) | assumption)
                            have q262 : x8_2 < (t249.length : Int) := of_decide_eq_true (by first | (with_reducible assumption) | assumption)
                            obtain ⟨ad262, e262, hx262_0, hx262_1, hx262_2, hx262_3, hx262_4, hx262_5, hx262_6, hx262_7⟩ := at_T55 (Kd.R_reads' HO_5.out).2.2 x8_2 p262 q262
                            obtain rfl : ad260 = ad262 := (by injection e262)
                            replace p262 := eq_true p262
                            replace q262 := eq_true q262
                            try go_wp2
                            go_roundg kj19
                            case measure => have := HJ4.out; have := HK2.out; have := HJ19.out; omega
                            case rel => exact ⟨(ji36), (wrap64 (x8_2 + 1)), (by first | rfl | (simp; done) | (simp only [← hji36] <;> (first | rfl | simp)) | (simp [*]; done)), (by first | rfl | (simp; done) | (simp [*]; done)), H', ⟨by have := HJ4.out; have := HK2.out; have := HJ19.out; omega⟩, ⟨by (with_reducible repeat (first | apply Kd.R_alloc | apply Kd.R_drewN | apply Kd.R_drew)); exact HO_5.out⟩, ⟨by (with_reducible repeat (first | apply Kd.R_alloc | apply Kd.R_drewN | apply Kd.R_drew)); exact HO_6.out⟩, ⟨by repeat (first | (with_reducible first | exact HB.out | apply below_alloc | apply pw_below_drewN | apply below_drew1) | exact HB.out)⟩⟩
                          · rw [if_neg c37] at H
                            have c37b0 : (((rd_T55 t249 x8_2).f0) == 16) = false := beq_eq_false_iff_ne.mpr c37
                            have c37b1 : (((rd_T55 t249 x8_2).f0) != 16) = true := bne_iff_ne.mpr c37
                            by_cases c39 : ((rd_T55 t249 x8_2).f0) = 18
                            · rw [if_pos c39] at H
                              have c39b0 : (((rd_T55 t249 x8_2).f0) == 18) = true := beq_iff_eq.mpr c39
                              have c39b1 : (((rd_T55 t249 x8_2).f0) != 18) = false := bne_eq_false_iff_eq.mpr c39
                              clear c39
                              have H' := Aside0.mk H
                              clear H
                              try go_wp2
                              have n0_ := Aside0.mk (Kd.R_drew HO_5.out)
                              have n1_ := Aside0.mk (Kd.R_drew HO_6.out)
                              have n2_ := Aside0.mk (below_drew1 HB.out)
                              clear HO_5
                              clear HO_6
                              clear HB
                              have HO_5 := n0_
                              have HO_6 := n1_
                              have HB := n2_
                              clear n0_ n1_ n2_
                              have p260 : 0 ≤ (x8_2 : Int) := of_decide_eq_true (by first | (with_reducible assumption) | assumption)
                              have q260 : x8_2 < (t249.length : Int) := of_decide_eq_true (by first | (with_reducible assumption) | assumption)
                              obtain ⟨ad260, e260, hx260_0, hx260_1, hx260_2, hx260_3, hx260_4, hx260_5, hx260_6, hx260_7⟩ := at_T55 (Kd.R_reads' HO_5.out).2.2 x8_2 p260 q260
                              cases e260
                              replace p260 := eq_true p260
                              replace q260 := eq_true q260
                              have p261 : 0 ≤ (x8_2 : Int) := of_decide_eq_true (by first | (with_reducible assumption) | assumption)
                              have q261 : x8_2 < (t249.length : Int) := of_decide_eq_true (by first | (with_reducible assumption) | assumption)
                              obtain ⟨ad261, e261, hx261_0, hx261_1, hx261_2, hx261_3, hx261_4, hx261_5, hx261_6, hx261_7⟩ := at_T55 (Kd.R_reads' HO_5.out).2.2 x8_2 p261 q261
                              obtain rfl : ad260 = ad261 := (by injection e261)
                              replace p261 := eq_true p261
                              replace q261 := eq_true q261
                              refine start_ (n := 14) (S := fun w' => w'.cell? (ad260.add ((x8_2).toNat * 8)) = some (.int .i64 ((rd_T55 t249 x8_2).f0)) ∧ w'.cell? ⟨(ad260.add ((x8_2).toNat * 8)).block, (ad260.add ((x8_2).toNat * 8)).off + 1, none⟩ = some (.int .i64 ((rd_T55 t249 x8_2).f1)) ∧ w'.cell? ⟨(ad260.add ((x8_2).toNat * 8)).block, (ad260.add ((x8_2).toNat * 8)).off + 2, none⟩ = some (.int .i64 ((rd_T55 t249 x8_2).f2)) ∧ w'.cell? ⟨(ad260.add ((x8_2).toNat * 8)).block, (ad260.add ((x8_2).toNat * 8)).off + 3, none⟩ = some (.int .i64 ((rd_T55 t249 x8_2).f3)) ∧ w'.cell? ⟨(ad260.add ((x8_2).toNat * 8)).block, (ad260.add ((x8_2).toNat * 8)).off + 4, none⟩ = some (.int .i64 ((rd_T55 t249 x8_2).f4)) ∧ w'.cell? ⟨(ad260.add ((x8_2).toNat * 8)).block, (ad260.add ((x8_2).toNat * 8)).off + 5, none⟩ = some (.int .i64 ((rd_T55 t249 x8_2).f5)) ∧ w'.cell? ⟨(ad260.add ((x8_2).toNat * 8)).block, (ad260.add ((x8_2).toNat * 8)).off + 6, none⟩ = some (.int .i64 ((rd_T55 t249 x8_2).f6)) ∧ w'.cell? ⟨(ad260.add ((x8_2).toNat * 8)).block, (ad260.add ((x8_2).toNat * 8)).off + 7, none⟩ = some (.int .i64 ((rd_T55 t249 x8_2).f7)) ∧ w'.cell? (ad260.add ((x8_2).toNat * 8)) = some (.int .i64 ((rd_T55 t249 x8_2).f0)) ∧ w'.cell? ⟨(ad260.add ((x8_2).toNat * 8)).block, (ad260.add ((x8_2).toNat * 8)).off + 1, none⟩ = some (.int .i64 ((rd_T55 t249 x8_2).f1)) ∧ w'.cell? ⟨(ad260.add ((x8_2).toNat * 8)).block, (ad260.add ((x8_2).toNat * 8)).off + 2, none⟩ = some (.int .i64 ((rd_T55 t249 x8_2).f2)) ∧ w'.cell? ⟨(ad260.add ((x8_2).toNat * 8)).block, (ad260.add ((x8_2).toNat * 8)).off + 3, none⟩ = some (.int .i64 ((rd_T55 t249 x8_2).f3)) ∧ w'.cell? ⟨(ad260.add ((x8_2).toNat * 8)).block, (ad260.add ((x8_2).toNat * 8)).off + 4, none⟩ = some (.int .i64 ((rd_T55 t249 x8_2).f4)) ∧ w'.cell? ⟨(ad260.add ((x8_2).toNat * 8)).block, (ad260.add ((x8_2).toNat * 8)).off + 5, none⟩ = some (.int .i64 ((rd_T55 t249 x8_2).f5)) ∧ w'.cell? ⟨(ad260.add ((x8_2).toNat * 8)).block, (ad260.add ((x8_2).toNat * 8)).off + 6, none⟩ = some (.int .i64 ((rd_T55 t249 x8_2).f6)) ∧ w'.cell? ⟨(ad260.add ((x8_2).toNat * 8)).block, (ad260.add ((x8_2).toNat * 8)).off + 7, none⟩ = some (.int .i64 ((rd_T55 t249 x8_2).f7))) (ds := []) #[false, false, false, false, false, false, false, false, false, false, false, false, false, false] (by kernel_rfl) rfl rfl ⟨hx260_0, hx260_1, hx260_2, hx260_3, hx260_4, hx260_5, hx260_6, hx260_7, hx261_0, hx261_1, hx261_2, hx261_3, hx261_4, hx261_5, hx261_6, hx261_7⟩ (fun hHeld => ?_); refine with_tabW pianolalaw12_EncodeLoads.tab10 pianolalaw12_EncodeLoads.bits10 (fun HT_ HW_ => ?_)
                              generalize wc.drew = w40 at HO_5 HO_6 HB hx260_0 hx260_1 hx260_2 hx260_3 hx260_4 hx260_5 hx260_6 hx260_7 hx261_0 hx261_1 hx261_2 hx261_3 hx261_4 hx261_5 hx261_6 hx261_7 hHeld ⊢
                              refine pure_ (i := 0) (N := some 53) (v := ?_) (a' := ?_) #[true, false, false, false, false, false, false, false, false, false, false, false, false, false] rfl rfl (any_of HT_.out (by kernel_rfl)) (fun _ _ _ h => h) (Or.inl ⟨by rfl, ?_⟩) ?_ ?_
                              rotate_left
                              · intro w'
                                go_simp
                                with_reducible rfl
                              rotate_left
                              · simp only [Act.put, List.setIfInBounds_toArray, List.set_cons_zero, List.set_cons_succ, i64_w, i32_w]
                                rfl
                              refine pure_ (i := 1) (N := some 54) (v := ?_) (a' := ?_) #[true, true, false, false, false, false, false, false, false, false, false, false, false, false] rfl rfl (any_of HT_.out (by kernel_rfl)) (fun _ _ _ h => h) (Or.inl ⟨by rfl, ?_⟩) ?_ ?_
                              rotate_left
                              · intro w'
                                go_simp
                                with_reducible rfl
                              rotate_left
                              · simp only [Act.put, List.setIfInBounds_toArray, List.set_cons_zero, List.set_cons_succ, i64_w, i32_w]
                                rfl
                              refine pure_ (i := 2) (N := some 55) (v := ?_) (a' := ?_) #[true, true, true, false, false, false, false, false, false, false, false, false, false, false] rfl rfl (any_of HT_.out (by kernel_rfl)) (fun _ _ _ h => h) (Or.inl ⟨by rfl, ?_⟩) ?_ ?_
                              rotate_left
                              · intro w'
                                go_simp
                                with_reducible rfl
                              rotate_left
                              · simp only [Act.put, List.setIfInBounds_toArray, List.set_cons_zero, List.set_cons_succ, i64_w, i32_w]
                                rfl
                              refine pure_ (i := 3) (N := some 56) (v := ?_) (a' := ?_) #[true, true, true, true, false, false, false, false, false, false, false, false, false, false] rfl rfl (any_of HT_.out (by kernel_rfl)) (fun _ _ _ h => h) (Or.inl ⟨by rfl, ?_⟩) ?_ ?_
                              rotate_left
                              · intro w'
                                go_simp
                                with_reducible rfl
                              rotate_left
                              · simp only [Act.put, List.setIfInBounds_toArray, List.set_cons_zero, List.set_cons_succ, i64_w, i32_w]
                                rfl
                              refine pure_ (i := 6) (N := some 59) (v := ?_) (a' := ?_) #[true, true, true, true, false, false, true, false, false, false, false, false, false, false] rfl rfl (any_of HT_.out (by kernel_rfl)) (fun _ _ _ h => h) (Or.inl ⟨by rfl, ?_⟩) ?_ ?_
                              rotate_left
                              · intro w'
                                go_simp
                                with_reducible rfl
                              rotate_left
                              · simp only [Act.put, List.setIfInBounds_toArray, List.set_cons_zero, List.set_cons_succ, i64_w, i32_w]
                                rfl
                              refine pure_ (i := 7) (N := some 60) (v := ?_) (a' := ?_) #[true, true, true, true, false, false, true, true, false, false, false, false, false, false] rfl rfl (any_of HT_.out (by kernel_rfl)) (fun _ _ _ h => h) (Or.inl ⟨by rfl, ?_⟩) ?_ ?_
                              rotate_left
                              · intro w'
                                go_simp
                                with_reducible rfl
                              rotate_left
                              · simp only [Act.put, List.setIfInBounds_toArray, List.set_cons_zero, List.set_cons_succ, i64_w, i32_w]
                                rfl
                              refine pure_ (i := 8) (N := some 61) (v := ?_) (a' := ?_) #[true, true, true, true, false, false, true, true, true, false, false, false, false, false] rfl rfl (any_of HT_.out (by kernel_rfl)) (fun _ _ _ h => h) (Or.inl ⟨by rfl, ?_⟩) ?_ ?_
                              rotate_left
                              · intro w'
                                go_simp
                                with_reducible rfl
                              rotate_left
                              · simp only [Act.put, List.setIfInBounds_toArray, List.set_cons_zero, List.set_cons_succ, i64_w, i32_w]
                                rfl
                              refine pure_ (i := 9) (N := some 62) (v := ?_) (a' := ?_) #[true, true, true, true, false, false, true, true, true, true, false, false, false, false] rfl rfl (any_of HT_.out (by kernel_rfl)) (fun _ _ _ h => h) (Or.inl ⟨by rfl, ?_⟩) ?_ ?_
                              rotate_left
                              · intro w'
                                go_simp
                                with_reducible rfl
                              rotate_left
                              · simp only [Act.put, List.setIfInBounds_toArray, List.set_cons_zero, List.set_cons_succ, i64_w, i32_w]
                                rfl
                              refine take_ (i := 4) (N := some 57) (v := ?_) (a' := ?_) #[true, true, true, true, true, false, true, true, true, true, false, false, false, false] rfl rfl (take_ofW HT_.out HW_.out (by kernel_rfl)) (fun _ _ _ h => h) (Or.inl ⟨by rfl, ?_⟩) hHeld ?_ ?_
                              rotate_left
                              · rintro w' ⟨s0, s1, s2, s3, s4, s5, s6, s7, s8, s9, s10, s11, s12, s13, s14, s15⟩
                                go_simp
                                with_reducible rfl
                              rotate_left
                              · simp only [Act.put, List.setIfInBounds_toArray, List.set_cons_zero, List.set_cons_succ, i64_w, i32_w]
                                rfl
                              refine pure_ (i := 5) (N := some 58) (v := ?_) (a' := ?_) #[true, true, true, true, true, true, true, true, true, true, false, false, false, false] rfl rfl (any_of HT_.out (by kernel_rfl)) (fun _ _ _ h => h) (Or.inl ⟨by rfl, ?_⟩) ?_ ?_
                              rotate_left
                              · intro w'
                                go_simp
                                with_reducible rfl
                              rotate_left
                              · simp only [Act.put, List.setIfInBounds_toArray, List.set_cons_zero, List.set_cons_succ, i64_w, i32_w]
                                rfl
                              refine take_ (i := 10) (N := some 63) (v := ?_) (a' := ?_) #[true, true, true, true, true, true, true, true, true, true, true, false, false, false] rfl rfl (take_ofW HT_.out HW_.out (by kernel_rfl)) (fun _ _ _ h => h) (Or.inl ⟨by rfl, ?_⟩) hHeld ?_ ?_
                              rotate_left
                              · rintro w' ⟨s0, s1, s2, s3, s4, s5, s6, s7, s8, s9, s10, s11, s12, s13, s14, s15⟩
                                go_simp
                                with_reducible rfl
                              rotate_left
                              · simp only [Act.put, List.setIfInBounds_toArray, List.set_cons_zero, List.set_cons_succ, i64_w, i32_w]
                                rfl
                              refine pure_ (i := 11) (N := some 64) (v := ?_) (a' := ?_) #[true, true, true, true, true, true, true, true, true, true, true, true, false, false] rfl rfl (any_of HT_.out (by kernel_rfl)) (fun _ _ _ h => h) (Or.inl ⟨by rfl, ?_⟩) ?_ ?_
                              rotate_left
                              · intro w'
                                go_simp
                                with_reducible rfl
                              rotate_left
                              · simp only [Act.put, List.setIfInBounds_toArray, List.set_cons_zero, List.set_cons_succ, i64_w, i32_w]
                                rfl
                              refine pure_ (i := 12) (N := some 65) (v := ?_) (a' := ?_) #[true, true, true, true, true, true, true, true, true, true, true, true, true, false] rfl rfl (any_of HT_.out (by kernel_rfl)) (fun _ _ _ h => h) (Or.inl ⟨by rfl, ?_⟩) ?_ ?_
                              rotate_left
                              · intro w'
                                go_simp
                                with_reducible rfl
                              rotate_left
                              · simp only [Act.put, List.setIfInBounds_toArray, List.set_cons_zero, List.set_cons_succ, i64_w, i32_w]
                                rfl
                              refine pure_ (i := 13) (N := some 9) (v := ?_) (a' := ?_) #[true, true, true, true, true, true, true, true, true, true, true, true, true, true] rfl rfl (any_of HT_.out (by kernel_rfl)) (fun _ _ _ h => h) (Or.inl ⟨by rfl, ?_⟩) ?_ ?_
                              rotate_left
                              · intro w'
                                go_simp
                                with_reducible rfl
                              rotate_left
                              · simp only [Act.put, List.setIfInBounds_toArray, List.set_cons_zero, List.set_cons_succ, i64_w, i32_w]
                                rfl
                              refine done_ (done_of HT_.out (by kernel_rfl)) ?_
                              have p262 : 0 ≤ (x8_2 : Int) := of_decide_eq_true (by first | (with_reducible assumption) | assumption)
                              have q262 : x8_2 < (t249.length : Int) := of_decide_eq_true (by first | (with_reducible assumption) | assumption)
                              obtain ⟨ad262, e262, hx262_0, hx262_1, hx262_2, hx262_3, hx262_4, hx262_5, hx262_6, hx262_7⟩ := at_T55 (Kd.R_reads' HO_5.out).2.2 x8_2 p262 q262
                              obtain rfl : ad260 = ad262 := (by injection e262)
                              replace p262 := eq_true p262
                              replace q262 := eq_true q262
                              try go_wp2
                              go_roundg kj19
                              case measure => have := HJ4.out; have := HK2.out; have := HJ19.out; omega
                              case rel => exact ⟨(Go.bits .xor .u64 18446744073709551615 (ji36)), (wrap64 (x8_2 + 1)), (by first | rfl | (simp; done) | (simp only [← hji36] <;> (first | rfl | simp)) | (simp [*]; done)), (by first | rfl | (simp; done) | (simp [*]; done)), H', ⟨by have := HJ4.out; have := HK2.out; have := HJ19.out; omega⟩, ⟨by (with_reducible repeat (first | apply Kd.R_alloc | apply Kd.R_drewN | apply Kd.R_drew)); exact HO_5.out⟩, ⟨by (with_reducible repeat (first | apply Kd.R_alloc | apply Kd.R_drewN | apply Kd.R_drew)); exact HO_6.out⟩, ⟨by repeat (first | (with_reducible first | exact HB.out | apply below_alloc | apply pw_below_drewN | apply below_drew1) | exact HB.out)⟩⟩
                            · rw [if_neg c39] at H
                              have c39b0 : (((rd_T55 t249 x8_2).f0) == 18) = false := beq_eq_false_iff_ne.mpr c39
                              have c39b1 : (((rd_T55 t249 x8_2).f0) != 18) = true := bne_iff_ne.mpr c39
                              have c41b0 := eq_true (of_decide_eq_true (by first | (with_reducible assumption) | assumption) : 0 ≤ (ji34))
                              obtain ⟨ji42, hji42⟩ : ∃ j_ : Int, (shl .u64 65535 (ji34)) = j_ := ⟨_, rfl⟩
                              replace H : (pianolalaw12_EncodeLoads.l0 kj19 a1 t249 t252 (Go.bits .or .u64 (Go.bits .andNot .u64 x7_2 (ji42)) (ji36)) (wrap64 (x8_2 + 1))) = some r := by first | (rw [hji42] at H; exact H) | (simp only [hji42] at H ⊢; exact H)
                              have hji42_ : (IntKind.u64.wrap (65535 * 2 ^ min (ji34).toNat 64)) = ji42 := hji42
                              have hji42z : (ji34) ≤ 64 → (IntKind.u64.wrap (65535 * 2 ^ (ji34).toNat)) = ji42 := shl_small hji42
                              have H' := Aside0.mk H
                              clear H
                              try go_wp2
                              have n0_ := Aside0.mk (Kd.R_drew HO_5.out)
                              have n1_ := Aside0.mk (Kd.R_drew HO_6.out)
                              have n2_ := Aside0.mk (below_drew1 HB.out)
                              clear HO_5
                              clear HO_6
                              clear HB
                              have HO_5 := n0_
                              have HO_6 := n1_
                              have HB := n2_
                              clear n0_ n1_ n2_
                              have p260 : 0 ≤ (x8_2 : Int) := of_decide_eq_true (by first | (with_reducible assumption) | assumption)
                              have q260 : x8_2 < (t249.length : Int) := of_decide_eq_true (by first | (with_reducible assumption) | assumption)
                              obtain ⟨ad260, e260, hx260_0, hx260_1, hx260_2, hx260_3, hx260_4, hx260_5, hx260_6, hx260_7⟩ := at_T55 (Kd.R_reads' HO_5.out).2.2 x8_2 p260 q260
                              cases e260
                              replace p260 := eq_true p260
                              replace q260 := eq_true q260
                              have p261 : 0 ≤ (x8_2 : Int) := of_decide_eq_true (by first | (with_reducible assumption) | assumption)
                              have q261 : x8_2 < (t249.length : Int) := of_decide_eq_true (by first | (with_reducible assumption) | assumption)
                              obtain ⟨ad261, e261, hx261_0, hx261_1, hx261_2, hx261_3, hx261_4, hx261_5, hx261_6, hx261_7⟩ := at_T55 (Kd.R_reads' HO_5.out).2.2 x8_2 p261 q261
                              obtain rfl : ad260 = ad261 := (by injection e261)
                              replace p261 := eq_true p261
                              replace q261 := eq_true q261
                              refine start_ (n := 14) (S := fun w' => w'.cell? (ad260.add ((x8_2).toNat * 8)) = some (.int .i64 ((rd_T55 t249 x8_2).f0)) ∧ w'.cell? ⟨(ad260.add ((x8_2).toNat * 8)).block, (ad260.add ((x8_2).toNat * 8)).off + 1, none⟩ = some (.int .i64 ((rd_T55 t249 x8_2).f1)) ∧ w'.cell? ⟨(ad260.add ((x8_2).toNat * 8)).block, (ad260.add ((x8_2).toNat * 8)).off + 2, none⟩ = some (.int .i64 ((rd_T55 t249 x8_2).f2)) ∧ w'.cell? ⟨(ad260.add ((x8_2).toNat * 8)).block, (ad260.add ((x8_2).toNat * 8)).off + 3, none⟩ = some (.int .i64 ((rd_T55 t249 x8_2).f3)) ∧ w'.cell? ⟨(ad260.add ((x8_2).toNat * 8)).block, (ad260.add ((x8_2).toNat * 8)).off + 4, none⟩ = some (.int .i64 ((rd_T55 t249 x8_2).f4)) ∧ w'.cell? ⟨(ad260.add ((x8_2).toNat * 8)).block, (ad260.add ((x8_2).toNat * 8)).off + 5, none⟩ = some (.int .i64 ((rd_T55 t249 x8_2).f5)) ∧ w'.cell? ⟨(ad260.add ((x8_2).toNat * 8)).block, (ad260.add ((x8_2).toNat * 8)).off + 6, none⟩ = some (.int .i64 ((rd_T55 t249 x8_2).f6)) ∧ w'.cell? ⟨(ad260.add ((x8_2).toNat * 8)).block, (ad260.add ((x8_2).toNat * 8)).off + 7, none⟩ = some (.int .i64 ((rd_T55 t249 x8_2).f7)) ∧ w'.cell? (ad260.add ((x8_2).toNat * 8)) = some (.int .i64 ((rd_T55 t249 x8_2).f0)) ∧ w'.cell? ⟨(ad260.add ((x8_2).toNat * 8)).block, (ad260.add ((x8_2).toNat * 8)).off + 1, none⟩ = some (.int .i64 ((rd_T55 t249 x8_2).f1)) ∧ w'.cell? ⟨(ad260.add ((x8_2).toNat * 8)).block, (ad260.add ((x8_2).toNat * 8)).off + 2, none⟩ = some (.int .i64 ((rd_T55 t249 x8_2).f2)) ∧ w'.cell? ⟨(ad260.add ((x8_2).toNat * 8)).block, (ad260.add ((x8_2).toNat * 8)).off + 3, none⟩ = some (.int .i64 ((rd_T55 t249 x8_2).f3)) ∧ w'.cell? ⟨(ad260.add ((x8_2).toNat * 8)).block, (ad260.add ((x8_2).toNat * 8)).off + 4, none⟩ = some (.int .i64 ((rd_T55 t249 x8_2).f4)) ∧ w'.cell? ⟨(ad260.add ((x8_2).toNat * 8)).block, (ad260.add ((x8_2).toNat * 8)).off + 5, none⟩ = some (.int .i64 ((rd_T55 t249 x8_2).f5)) ∧ w'.cell? ⟨(ad260.add ((x8_2).toNat * 8)).block, (ad260.add ((x8_2).toNat * 8)).off + 6, none⟩ = some (.int .i64 ((rd_T55 t249 x8_2).f6)) ∧ w'.cell? ⟨(ad260.add ((x8_2).toNat * 8)).block, (ad260.add ((x8_2).toNat * 8)).off + 7, none⟩ = some (.int .i64 ((rd_T55 t249 x8_2).f7))) (ds := []) #[false, false, false, false, false, false, false, false, false, false, false, false, false, false] (by kernel_rfl) rfl rfl ⟨hx260_0, hx260_1, hx260_2, hx260_3, hx260_4, hx260_5, hx260_6, hx260_7, hx261_0, hx261_1, hx261_2, hx261_3, hx261_4, hx261_5, hx261_6, hx261_7⟩ (fun hHeld => ?_); refine with_tabW pianolalaw12_EncodeLoads.tab10 pianolalaw12_EncodeLoads.bits10 (fun HT_ HW_ => ?_)
                              generalize wc.drew = w43 at HO_5 HO_6 HB hx260_0 hx260_1 hx260_2 hx260_3 hx260_4 hx260_5 hx260_6 hx260_7 hx261_0 hx261_1 hx261_2 hx261_3 hx261_4 hx261_5 hx261_6 hx261_7 hHeld ⊢
                              refine pure_ (i := 0) (N := some 53) (v := ?_) (a' := ?_) #[true, false, false, false, false, false, false, false, false, false, false, false, false, false] rfl rfl (any_of HT_.out (by kernel_rfl)) (fun _ _ _ h => h) (Or.inl ⟨by rfl, ?_⟩) ?_ ?_
                              rotate_left
                              · intro w'
                                go_simp
                                with_reducible rfl
                              rotate_left
                              · simp only [Act.put, List.setIfInBounds_toArray, List.set_cons_zero, List.set_cons_succ, i64_w, i32_w]
                                rfl
                              refine pure_ (i := 1) (N := some 54) (v := ?_) (a' := ?_) #[true, true, false, false, false, false, false, false, false, false, false, false, false, false] rfl rfl (any_of HT_.out (by kernel_rfl)) (fun _ _ _ h => h) (Or.inl ⟨by rfl, ?_⟩) ?_ ?_
                              rotate_left
                              · intro w'
                                go_simp
                                with_reducible rfl
                              rotate_left
                              · simp only [Act.put, List.setIfInBounds_toArray, List.set_cons_zero, List.set_cons_succ, i64_w, i32_w]
                                rfl
                              refine pure_ (i := 2) (N := some 55) (v := ?_) (a' := ?_) #[true, true, true, false, false, false, false, false, false, false, false, false, false, false] rfl rfl (any_of HT_.out (by kernel_rfl)) (fun _ _ _ h => h) (Or.inl ⟨by rfl, ?_⟩) ?_ ?_
                              rotate_left
                              · intro w'
                                go_simp
                                with_reducible rfl
                              rotate_left
                              · simp only [Act.put, List.setIfInBounds_toArray, List.set_cons_zero, List.set_cons_succ, i64_w, i32_w]
                                rfl
                              refine pure_ (i := 3) (N := some 56) (v := ?_) (a' := ?_) #[true, true, true, true, false, false, false, false, false, false, false, false, false, false] rfl rfl (any_of HT_.out (by kernel_rfl)) (fun _ _ _ h => h) (Or.inl ⟨by rfl, ?_⟩) ?_ ?_
                              rotate_left
                              · intro w'
                                go_simp
                                with_reducible rfl
                              rotate_left
                              · simp only [Act.put, List.setIfInBounds_toArray, List.set_cons_zero, List.set_cons_succ, i64_w, i32_w]
                                rfl
                              refine pure_ (i := 6) (N := some 59) (v := ?_) (a' := ?_) #[true, true, true, true, false, false, true, false, false, false, false, false, false, false] rfl rfl (any_of HT_.out (by kernel_rfl)) (fun _ _ _ h => h) (Or.inl ⟨by rfl, ?_⟩) ?_ ?_
                              rotate_left
                              · intro w'
                                go_simp
                                with_reducible rfl
                              rotate_left
                              · simp only [Act.put, List.setIfInBounds_toArray, List.set_cons_zero, List.set_cons_succ, i64_w, i32_w]
                                rfl
                              refine pure_ (i := 7) (N := some 60) (v := ?_) (a' := ?_) #[true, true, true, true, false, false, true, true, false, false, false, false, false, false] rfl rfl (any_of HT_.out (by kernel_rfl)) (fun _ _ _ h => h) (Or.inl ⟨by rfl, ?_⟩) ?_ ?_
                              rotate_left
                              · intro w'
                                go_simp
                                with_reducible rfl
                              rotate_left
                              · simp only [Act.put, List.setIfInBounds_toArray, List.set_cons_zero, List.set_cons_succ, i64_w, i32_w]
                                rfl
                              refine pure_ (i := 8) (N := some 61) (v := ?_) (a' := ?_) #[true, true, true, true, false, false, true, true, true, false, false, false, false, false] rfl rfl (any_of HT_.out (by kernel_rfl)) (fun _ _ _ h => h) (Or.inl ⟨by rfl, ?_⟩) ?_ ?_
                              rotate_left
                              · intro w'
                                go_simp
                                with_reducible rfl
                              rotate_left
                              · simp only [Act.put, List.setIfInBounds_toArray, List.set_cons_zero, List.set_cons_succ, i64_w, i32_w]
                                rfl
                              refine pure_ (i := 9) (N := some 62) (v := ?_) (a' := ?_) #[true, true, true, true, false, false, true, true, true, true, false, false, false, false] rfl rfl (any_of HT_.out (by kernel_rfl)) (fun _ _ _ h => h) (Or.inl ⟨by rfl, ?_⟩) ?_ ?_
                              rotate_left
                              · intro w'
                                go_simp
                                with_reducible rfl
                              rotate_left
                              · simp only [Act.put, List.setIfInBounds_toArray, List.set_cons_zero, List.set_cons_succ, i64_w, i32_w]
                                rfl
                              refine take_ (i := 4) (N := some 57) (v := ?_) (a' := ?_) #[true, true, true, true, true, false, true, true, true, true, false, false, false, false] rfl rfl (take_ofW HT_.out HW_.out (by kernel_rfl)) (fun _ _ _ h => h) (Or.inl ⟨by rfl, ?_⟩) hHeld ?_ ?_
                              rotate_left
                              · rintro w' ⟨s0, s1, s2, s3, s4, s5, s6, s7, s8, s9, s10, s11, s12, s13, s14, s15⟩
                                go_simp
                                with_reducible rfl
                              rotate_left
                              · simp only [Act.put, List.setIfInBounds_toArray, List.set_cons_zero, List.set_cons_succ, i64_w, i32_w]
                                rfl
                              refine pure_ (i := 5) (N := some 58) (v := ?_) (a' := ?_) #[true, true, true, true, true, true, true, true, true, true, false, false, false, false] rfl rfl (any_of HT_.out (by kernel_rfl)) (fun _ _ _ h => h) (Or.inl ⟨by rfl, ?_⟩) ?_ ?_
                              rotate_left
                              · intro w'
                                go_simp
                                with_reducible rfl
                              rotate_left
                              · simp only [Act.put, List.setIfInBounds_toArray, List.set_cons_zero, List.set_cons_succ, i64_w, i32_w]
                                rfl
                              refine take_ (i := 10) (N := some 63) (v := ?_) (a' := ?_) #[true, true, true, true, true, true, true, true, true, true, true, false, false, false] rfl rfl (take_ofW HT_.out HW_.out (by kernel_rfl)) (fun _ _ _ h => h) (Or.inl ⟨by rfl, ?_⟩) hHeld ?_ ?_
                              rotate_left
                              · rintro w' ⟨s0, s1, s2, s3, s4, s5, s6, s7, s8, s9, s10, s11, s12, s13, s14, s15⟩
                                go_simp
                                with_reducible rfl
                              rotate_left
                              · simp only [Act.put, List.setIfInBounds_toArray, List.set_cons_zero, List.set_cons_succ, i64_w, i32_w]
                                rfl
                              refine pure_ (i := 11) (N := some 64) (v := ?_) (a' := ?_) #[true, true, true, true, true, true, true, true, true, true, true, true, false, false] rfl rfl (any_of HT_.out (by kernel_rfl)) (fun _ _ _ h => h) (Or.inl ⟨by rfl, ?_⟩) ?_ ?_
                              rotate_left
                              · intro w'
                                go_simp
                                with_reducible rfl
                              rotate_left
                              · simp only [Act.put, List.setIfInBounds_toArray, List.set_cons_zero, List.set_cons_succ, i64_w, i32_w]
                                rfl
                              refine pure_ (i := 12) (N := some 65) (v := ?_) (a' := ?_) #[true, true, true, true, true, true, true, true, true, true, true, true, true, false] rfl rfl (any_of HT_.out (by kernel_rfl)) (fun _ _ _ h => h) (Or.inl ⟨by rfl, ?_⟩) ?_ ?_
                              rotate_left
                              · intro w'
                                go_simp
                                with_reducible rfl
                              rotate_left
                              · simp only [Act.put, List.setIfInBounds_toArray, List.set_cons_zero, List.set_cons_succ, i64_w, i32_w]
                                rfl
                              refine pure_ (i := 13) (N := some 9) (v := ?_) (a' := ?_) #[true, true, true, true, true, true, true, true, true, true, true, true, true, true] rfl rfl (any_of HT_.out (by kernel_rfl)) (fun _ _ _ h => h) (Or.inl ⟨by rfl, ?_⟩) ?_ ?_
                              rotate_left
                              · intro w'
                                go_simp
                                with_reducible rfl
                              rotate_left
                              · simp only [Act.put, List.setIfInBounds_toArray, List.set_cons_zero, List.set_cons_succ, i64_w, i32_w]
                                rfl
                              refine done_ (done_of HT_.out (by kernel_rfl)) ?_
                              have p262 : 0 ≤ (x8_2 : Int) := of_decide_eq_true (by first | (with_reducible assumption) | assumption)
                              have q262 : x8_2 < (t249.length : Int) := of_decide_eq_true (by first | (with_reducible assumption) | assumption)
                              obtain ⟨ad262, e262, hx262_0, hx262_1, hx262_2, hx262_3, hx262_4, hx262_5, hx262_6, hx262_7⟩ := at_T55 (Kd.R_reads' HO_5.out).2.2 x8_2 p262 q262
                              obtain rfl : ad260 = ad262 := (by injection e262)
                              replace p262 := eq_true p262
                              replace q262 := eq_true q262
                              have p263 : 0 ≤ (x8_2 : Int) := of_decide_eq_true (by first | (with_reducible assumption) | assumption)
                              have q263 : x8_2 < (t249.length : Int) := of_decide_eq_true (by first | (with_reducible assumption) | assumption)
                              obtain ⟨ad263, e263, hx263_0, hx263_1, hx263_2, hx263_3, hx263_4, hx263_5, hx263_6, hx263_7⟩ := at_T55 (Kd.R_reads' HO_5.out).2.2 x8_2 p263 q263
                              obtain rfl : ad260 = ad263 := (by injection e263)
                              replace p263 := eq_true p263
                              replace q263 := eq_true q263
                              try go_wp2
                              go_roundg kj19
                              case measure => have := HJ4.out; have := HK2.out; have := HJ19.out; omega
                              case rel => exact ⟨(Go.bits .or .u64 (Go.bits .andNot .u64 x7_2 (ji42)) (ji36)), (wrap64 (x8_2 + 1)), (by first | rfl | (simp; done) | (simp only [← hji36, ← hji42] <;> (first | rfl | simp)) | (simp [*]; done)), (by first | rfl | (simp; done) | (simp [*]; done)), H', ⟨by have := HJ4.out; have := HK2.out; have := HJ19.out; omega⟩, ⟨by (with_reducible repeat (first | apply Kd.R_alloc | apply Kd.R_drewN | apply Kd.R_drew)); exact HO_5.out⟩, ⟨by (with_reducible repeat (first | apply Kd.R_alloc | apply Kd.R_drewN | apply Kd.R_drew)); exact HO_6.out⟩, ⟨by repeat (first | (with_reducible first | exact HB.out | apply below_alloc | apply pw_below_drewN | apply below_drew1) | exact HB.out)⟩⟩
                        · rw [if_neg c35] at H
                          exact absurd H (by simp)
                      · rw [if_neg c33] at H
                        exact absurd H (by simp)
                    · rw [if_neg c32] at H
                      exact absurd H (by simp)
            · rw [if_neg c19] at H
              have c19b0 : decide (x8_2 < (t249.length : Int)) = false := decide_eq_false c19
              clear c19
              by_cases c44 : (t249.length : Int) = 0
              · rw [if_pos c44] at H
                have c44b0 : ((t249.length : Int) == 0) = true := beq_iff_eq.mpr c44
                have c44b1 : ((t249.length : Int) != 0) = false := bne_eq_false_iff_eq.mpr c44
                clear c44
                obtain rfl := Option.some.inj H
                obtain ⟨Ao45, co45, eo45⟩ := Kd.R_slice HO_5.out
                subst eo45
                go_wp2
                go_ret
                exact ⟨by first | rfl | (simp [errW_none, errW_some] <;> rfl) | (simp [*, errW_none, errW_some] <;> rfl), by repeat (first | (with_reducible first | exact HB.out | apply below_alloc | apply pw_below_drewN | apply below_drew1) | exact HB.out)⟩
              · rw [if_neg c44] at H
                have c44b0 : ((t249.length : Int) == 0) = false := beq_eq_false_iff_ne.mpr c44
                have c44b1 : ((t249.length : Int) != 0) = true := bne_iff_ne.mpr c44
                have c44b2 : ¬ (t249 = []) := fun h_ => c44 (by rw [h_]; rfl)
                obtain rfl := Option.some.inj H
                obtain ⟨Ao46, co46, eo46⟩ := Kd.R_slice HO_5.out
                subst eo46
                go_wp2
                go_ret
                exact ⟨by first | rfl | (simp [errW_none, errW_some] <;> rfl) | (simp [*, errW_none, errW_some] <;> rfl), by repeat (first | (with_reducible first | exact HB.out | apply below_alloc | apply pw_below_drewN | apply below_drew1) | exact HB.out)⟩

/-- THE ONE PURE STATEMENT of pianolalaw12_EncodeLoads: yours. -/
def pianolalaw12_EncodeLoads.Pure : Prop := ∀ (a0 : Int) (a1 : Int), (Lit.int .i64 a0).wf = true → (Lit.int .i64 a1).wf = true → ∃ k, pianolalaw12_EncodeLoads.f k a0 a1 = some true
theorem pianolalaw12_EncodeLoads.walk (P : pianolalaw12_EncodeLoads.Pure) (a0 : Int) (a1 : Int) (w : World) (w0 : (Lit.int .i64 a0).wf = true) (w1 : (Lit.int .i64 a1).wf = true) :
    Calls Try.prog 9 #[.int .i64 a0, .int .i64 a1] w fun e w' => e = .returned (.bool true) ∧ Below w.heap.size w w' := by
  obtain ⟨k, h⟩ := P a0 a1 w0 w1
  refine (pianolalaw12_EncodeLoads.calls k a0 a1 true w h).mono ?_
  rintro e w' ⟨rfl, hd⟩
  exact ⟨rfl, hd⟩

end Go.Proofs.Ytndedmkjmahohaa.P
