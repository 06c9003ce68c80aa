/- Ytpfbfnbffglbkaa: what Go functions come to, and that they do: walks, printed by a program of this session or typed by hand; no statement of the seat stands here. -/
import Derived.Test.YtpfbfnbffglbkaaP0
import Derived.Test.YtpfbfnbffglbkaaPF19
namespace Go.Proofs.Ytpfbfnbffglbkaa.P
open Go.RowKit Go.Proofs.YtpfbfnbffglbkaaW.PrintWords Go.Proofs.YtpfbfnbffglbkaaW.PrintLast Go.Proofs.YtpfbfnbffglbkaaW.PrintMore
attribute [local go_sem] max2_int min2_int max_two min_two max_three min_three max_four min_four   -- for this text's walks alone
set_option linter.unusedVariables false
set_option linter.unusedSimpArgs false

/-! ### pianolaref10_back: function 48 -/
mutual
def pianolaref10_back.l0 : Nat → List (S30) → List Bool → List Bool → Int → Option (Bool)
  | 0, _, _, _, _ => none
  | k + 1, x0, x3, x5, x6 => if x6 < (x0.length : Int) then (pianolaref10_back.l1 k x0 x3 x5 x6 0) else (pianolaref10_back.l3 k x0 x3 x5 0)
def pianolaref10_back.l1 : Nat → List (S30) → List Bool → List Bool → Int → Int → Option (Bool)
  | 0, _, _, _, _, _ => none
  | k + 1, x0, x3, x5, x6, x7 => if x7 < (x0.length : Int) then (pianolaref10_back.l2 k x0 x3 x5 x6 x7 true 0) else (pianolaref10_back.l0 k x0 x3 x5 (wrap64 (x6 + 1)))
def pianolaref10_back.l2 : Nat → List (S30) → List Bool → List Bool → Int → Int → Bool → Int → Option (Bool)
  | 0, _, _, _, _, _, _, _ => none
  | k + 1, x0, x3, x5, x6, x7, x8, x9 => if 0 ≤ x7 then (if x7 < (x0.length : Int) then (if x9 < (((rd_T30 x0 x7).f2).length : Int) then (if 0 ≤ x9 then (if (rd ((rd_T30 x0 x7).f2) x9) ≥ 0 then (if (rd ((rd_T30 x0 x7).f2) x9) < (x0.length : Int) then (if 0 ≤ (rd ((rd_T30 x0 x7).f2) x9) then (if (rd ((rd_T30 x0 x7).f2) x9) < (x5.length : Int) then (if (rdOf false x5 (rd ((rd_T30 x0 x7).f2) x9) = true) then (pianolaref10_back.l2 k x0 x3 x5 x6 x7 x8 (wrap64 (x9 + 1))) else (pianolaref10_back.l2 k x0 x3 x5 x6 x7 false (wrap64 (x9 + 1)))) else (none)) else (none)) else (pianolaref10_back.l2 k x0 x3 x5 x6 x7 x8 (wrap64 (x9 + 1)))) else (pianolaref10_back.l2 k x0 x3 x5 x6 x7 x8 (wrap64 (x9 + 1)))) else (none)) else (if x8 = true then (if x7 < (x5.length : Int) then (pianolaref10_back.l1 k x0 x3 (x5.set (x7 : Int).toNat true) x6 (wrap64 (x7 + 1))) else (none)) else (pianolaref10_back.l1 k x0 x3 x5 x6 (wrap64 (x7 + 1))))) else (none)) else (none)
def pianolaref10_back.l3 : Nat → List (S30) → List Bool → List Bool → Int → Option (Bool)
  | 0, _, _, _, _ => none
  | k + 1, x0, x3, x5, x11 => if x11 < (x0.length : Int) then (if 0 ≤ x11 then (if x11 < (x3.length : Int) then (if rdOf false x3 x11 = true then (if x11 < (x5.length : Int) then (if rdOf false x5 x11 = true then (pianolaref10_back.l3 k x0 x3 x5 (wrap64 (x11 + 1))) else (some true)) else (none)) else (pianolaref10_back.l3 k x0 x3 x5 (wrap64 (x11 + 1)))) else (none)) else (none)) else (some false)
end
def pianolaref10_back.f (k : Nat) (l0 : List (S30)) : Option (Bool) := (pianolaref08_Walk.f l0 (-1)).bind fun bt434 => (if 0 ≤ (l0.length : Int) then (if ((l0.length : Int) : Int).toNat ≤ 281474976710656 then (pianolaref10_back.l0 k l0 bt434.1 (List.replicate ((l0.length : Int) : Int).toNat false) 0) else (none)) else (none))
theorem pianolaref10_back.mono_l : ∀ k, (∀ y0 y1 y2 y3, LeO (pianolaref10_back.l0 k y0 y1 y2 y3) (pianolaref10_back.l0 (k + 1) y0 y1 y2 y3)) ∧ (∀ y0 y1 y2 y3 y4, LeO (pianolaref10_back.l1 k y0 y1 y2 y3 y4) (pianolaref10_back.l1 (k + 1) y0 y1 y2 y3 y4)) ∧ (∀ y0 y1 y2 y3 y4 y5 y6, LeO (pianolaref10_back.l2 k y0 y1 y2 y3 y4 y5 y6) (pianolaref10_back.l2 (k + 1) y0 y1 y2 y3 y4 y5 y6)) ∧ (∀ y0 y1 y2 y3, LeO (pianolaref10_back.l3 k y0 y1 y2 y3) (pianolaref10_back.l3 (k + 1) y0 y1 y2 y3))
  | 0 => ⟨fun _ _ _ _ r h => by simp [pianolaref10_back.l0] at h, fun _ _ _ _ _ r h => by simp [pianolaref10_back.l1] at h, fun _ _ _ _ _ _ _ r h => by simp [pianolaref10_back.l2] at h, fun _ _ _ _ r h => by simp [pianolaref10_back.l3] at h⟩
  | k + 1 => by
    obtain ⟨ih0, ih1, ih2, ih3⟩ := pianolaref10_back.mono_l k
    refine ⟨?_, ?_, ?_, ?_⟩
    · intro y0 y1 y2 y3
      unfold pianolaref10_back.l0
      repeat' first
      | (with_reducible exact ih0 _ _ _ _)
      | (with_reducible exact ih1 _ _ _ _ _)
      | (with_reducible exact ih2 _ _ _ _ _ _ _)
      | (with_reducible exact ih3 _ _ _ _)
      | (with_reducible exact LeO.refl _)
      | (with_reducible exact LeO.none _)
      | (with_reducible refine LeO.ite ?_ ?_)
      | (with_reducible refine LeO.bind ?_ (fun _ => ?_))
      | exact ih0 _ _ _ _
      | exact ih1 _ _ _ _ _
      | exact ih2 _ _ _ _ _ _ _
      | exact ih3 _ _ _ _
      | exact LeO.none _
      | refine LeO.ite ?_ ?_
      | refine LeO.bind ?_ (fun _ => ?_)
    · intro y0 y1 y2 y3 y4
      unfold pianolaref10_back.l1
      repeat' first
      | (with_reducible exact ih0 _ _ _ _)
      | (with_reducible exact ih1 _ _ _ _ _)
      | (with_reducible exact ih2 _ _ _ _ _ _ _)
      | (with_reducible exact ih3 _ _ _ _)
      | (with_reducible exact LeO.refl _)
      | (with_reducible exact LeO.none _)
      | (with_reducible refine LeO.ite ?_ ?_)
      | (with_reducible refine LeO.bind ?_ (fun _ => ?_))
      | exact ih0 _ _ _ _
      | exact ih1 _ _ _ _ _
      | exact ih2 _ _ _ _ _ _ _
      | exact ih3 _ _ _ _
      | exact LeO.none _
      | refine LeO.ite ?_ ?_
      | refine LeO.bind ?_ (fun _ => ?_)
    · intro y0 y1 y2 y3 y4 y5 y6
      unfold pianolaref10_back.l2
      repeat' first
      | (with_reducible exact ih0 _ _ _ _)
      | (with_reducible exact ih1 _ _ _ _ _)
      | (with_reducible exact ih2 _ _ _ _ _ _ _)
      | (with_reducible exact ih3 _ _ _ _)
      | (with_reducible exact LeO.refl _)
      | (with_reducible exact LeO.none _)
      | (with_reducible refine LeO.ite ?_ ?_)
      | (with_reducible refine LeO.bind ?_ (fun _ => ?_))
      | exact ih0 _ _ _ _
      | exact ih1 _ _ _ _ _
      | exact ih2 _ _ _ _ _ _ _
      | exact ih3 _ _ _ _
      | exact LeO.none _
      | refine LeO.ite ?_ ?_
      | refine LeO.bind ?_ (fun _ => ?_)
    · intro y0 y1 y2 y3
      unfold pianolaref10_back.l3
      repeat' first
      | (with_reducible exact ih0 _ _ _ _)
      | (with_reducible exact ih1 _ _ _ _ _)
      | (with_reducible exact ih2 _ _ _ _ _ _ _)
      | (with_reducible exact ih3 _ _ _ _)
      | (with_reducible exact LeO.refl _)
      | (with_reducible exact LeO.none _)
      | (with_reducible refine LeO.ite ?_ ?_)
      | (with_reducible refine LeO.bind ?_ (fun _ => ?_))
      | exact ih0 _ _ _ _
      | exact ih1 _ _ _ _ _
      | exact ih2 _ _ _ _ _ _ _
      | exact ih3 _ _ _ _
      | exact LeO.none _
      | refine LeO.ite ?_ ?_
      | refine LeO.bind ?_ (fun _ => ?_)
theorem pianolaref10_back.mono : ∀ a0 k, LeO (pianolaref10_back.f k a0) (pianolaref10_back.f (k + 1) a0) := by
  intro a0 k
  obtain ⟨ih0, ih1, ih2, ih3⟩ := pianolaref10_back.mono_l k
  unfold pianolaref10_back.f
  repeat' first
      | (with_reducible exact ih0 _ _ _ _)
      | (with_reducible exact ih1 _ _ _ _ _)
      | (with_reducible exact ih2 _ _ _ _ _ _ _)
      | (with_reducible exact ih3 _ _ _ _)
      | (with_reducible exact LeO.refl _)
      | (with_reducible exact LeO.none _)
      | (with_reducible refine LeO.ite ?_ ?_)
      | (with_reducible refine LeO.bind ?_ (fun _ => ?_))
      | exact ih0 _ _ _ _
      | exact ih1 _ _ _ _ _
      | exact ih2 _ _ _ _ _ _ _
      | exact ih3 _ _ _ _
      | exact LeO.none _
      | refine LeO.ite ?_ ?_
      | refine LeO.bind ?_ (fun _ => ?_)
set_option maxHeartbeats 8000000 in
set_option maxRecDepth 100000 in
theorem pianolaref10_back.calls (k : Nat) (A0 : Option Addr) (c0 : Nat) (l0 : List (S30)) (r : Bool) (w : World) (hr0 : Kd.C k30 w A0 l0.length l0) (hc0 : l0.length ≤ c0) (h : pianolaref10_back.f k l0 = some r) :
  Calls Try.prog 48 #[.slice A0 l0.length c0] w fun e w' => e = .returned (.bool r) ∧ Below w.heap.size w w' := by
 have HR0 := Aside0.mk hr0
 have HC0 := Aside0.mk hc0
 clear hr0 hc0
 have HB := Aside0.mk (Below.refl w.heap.size w)
 have H : ((pianolaref08_Walk.f l0 (-1)).bind fun bt434 => (if 0 ≤ (l0.length : Int) then (if ((l0.length : Int) : Int).toNat ≤ 281474976710656 then (pianolaref10_back.l0 k l0 bt434.1 (List.replicate ((l0.length : Int) : Int).toNat false) 0) else (none)) else (none))) = some r := h
 clear h
 replace H := Option.bind_eq_some_iff.mp H
 obtain ⟨⟨t434, t435⟩, A20, H⟩ := H
 replace H : (if 0 ≤ (l0.length : Int) then (if ((l0.length : Int) : Int).toNat ≤ 281474976710656 then (pianolaref10_back.l0 k l0 t434 (List.replicate ((l0.length : Int) : Int).toNat false) 0) else (none)) else (none)) = some r := H
 have A2 := Aside0.mk A20
 clear A20
 by_cases c3 : 0 ≤ (l0.length : Int)
 ·rw [if_pos c3] at H
  have c3b0 := eq_true c3
  have c3b1 : decide (0 ≤ (l0.length : Int)) = true := decide_eq_true c3
  clear c3
  by_cases c4 : ((l0.length : Int) : Int).toNat ≤ 281474976710656
  ·rw [if_pos c4] at H
   have c4b0 := eq_true c4
   have c4b1 : decide (((l0.length : Int) : Int).toNat ≤ 281474976710656) = true := decide_eq_true c4
   clear c4
   obtain ⟨y440, hy440⟩ : ∃ y_ : List Bool, y_ = (List.replicate ((l0.length : Int) : Int).toNat false) := ⟨_, rfl⟩
   replace H : (pianolaref10_back.l0 k l0 t434 y440 0) = some r := by first | (rw [hy440]; with_reducible exact H) | (have H2_ := (Option.bind_some _ _).symm.trans H; rw [hy440]; with_reducible exact H2_) | (have H2_ := (Option.bind_some _ _).symm.trans H; with_reducible exact H2_) | with_reducible exact H | (rw [hy440]; exact H) | exact H
   have Ny440 := Aside0.mk hy440
   clear hy440
   have H' := Aside0.mk H
   clear H
   go_enter Try.func48, Try.ntmps48
   go_wp2_with (first | ((with_reducible refine gate_callee (f := 19) rfl ?_); refine goesL_ (some 14) rfl rfl Try.func19 (by kernel_rfl) rfl #[.slice A0 l0.length c0, .int .i64 (-1)] rfl (by (try simp only [List.map_toArray, List.map_cons, List.map_nil]); first | done | rfl | (simp only [List.length_drop, List.length_take]; rfl)) ?_; (with_reducible refine (pianolaref08_Walk.calls _ _ l0 (-1) t434 t435 _ ?side1 ?side2 A2.out).mono ?_); (case side1 => repeat (first | exact HR0.out | (with_reducible refine Kd.C_alloc ?_ _) | (with_reducible refine Kd.C_drewN ?_ _) | (with_reducible refine Kd.C_drew ?_))); (case side2 => exact HC0.out); rintro e w5 ⟨v436, v438, rfl, ho0, ho1, hb⟩; refine ⟨_, rfl, ?_⟩; have n0_ := Aside0.mk (Kd.R_lower ho0 (below_size (by repeat (first | (with_reducible first | exact HB.out | apply below_alloc | apply pw_below_drewN | apply below_drew1) | exact HB.out)))); have n1_ := Aside0.mk (Kd.R_lower ho1 (below_size (by repeat (first | (with_reducible first | exact HB.out | apply below_alloc | apply pw_below_drewN | apply below_drew1) | exact HB.out)))); have n2_ := Aside0.mk (below_step (by repeat (first | (with_reducible first | exact HB.out | apply below_alloc | apply pw_below_drewN | apply below_drew1) | exact HB.out)) hb); clear HB; have HO437 := n0_; have HO439 := n1_; have HB := n2_; clear n0_ n1_ n2_; (try clear hb); (try clear hb2); (try clear hk); (try clear hi); (try clear ho0); (try clear ho1)) | ((with_reducible refine gate_dst (N := 19) rfl ?_); refine Kd.R_make Kd.bool _ 4 rfl (N := 19) rfl 36 _ _ rfl (l0.length : Int) rfl rfl Try.underlying36 (.bool false) 1 info4 rfl (by decide) (by omega) false (ok := fun _ => True) (okp := fun _ => True) rfl (fun _ hk => hk) trivial (of_decide_eq_true (by first | (with_reducible assumption) | assumption)) (Nat.le_trans (Nat.mul_le_mul_right _ (of_decide_eq_true (by first | (with_reducible assumption) | assumption) : (l0.length : Int).toNat ≤ 281474976710656)) (by omega)) (Below.refl _ _) (Nat.le_refl _) ?_; intro v441 w6 ho7 hb hg_ hnew_; clear hg_ hnew_; (first | rw [← Ny440.out] at ho7 | (simp only [Int.reduceToNat] at ho7; rw [← Ny440.out] at ho7)); have n0_ := Aside0.mk (Kd.R_elder' (by (with_reducible repeat (first | apply Kd.R_alloc | apply Kd.R_drewN | apply Kd.R_drew)); exact HO437.out) (Kd.R_base ho7) hb); have n1_ := Aside0.mk (Kd.R_below (by (with_reducible repeat (first | apply Kd.R_alloc | apply Kd.R_drewN | apply Kd.R_drew)); exact HO439.out) hb); have n2_ := Aside0.mk (Kd.R_lower (Kd.R_new' ho7 (Kd.R_lt (by (with_reducible repeat (first | apply Kd.R_alloc | apply Kd.R_drewN | apply Kd.R_drew)); exact HO437.out))) (below_size (by repeat (first | (with_reducible first | exact HB.out | apply below_alloc | apply pw_below_drewN | apply below_drew1) | exact HB.out)))); have n3_ := Aside0.mk (below_step (by repeat (first | (with_reducible first | exact HB.out | apply below_alloc | apply pw_below_drewN | apply below_drew1) | exact HB.out)) hb); clear HO437; clear HO439; clear HB; have HO437 := n0_; have HO439 := n1_; have HO442 := n2_; have HB := n3_; clear n0_ n1_ n2_ n3_; clear hb ho7))
   go_loopg [6] k (fun kq v6 w' => ∃ (x5_1 : List Bool) (x6_1 : Int), v6 = .int .i64 x6_1 ∧ Aside0 (pianolaref10_back.l0 kq l0 t434 x5_1 x6_1 = some r) ∧ Aside0 (kq ≤ k) ∧ Aside0 (Kd.R Kd.bool 4 w' w.heap.size (fun k_ => some k_ ≠ (v441 : Value).ownBlock) v436 t434) ∧ Aside0 (Kd.R Kd.bool 4 w' w.heap.size (fun k_ => some k_ ≠ (v436 : Value).ownBlock) v441 x5_1) ∧ Aside0 (Below w.heap.size w w'))
   case atStart => exact ⟨(y440), (0), (by first | rfl | (simp; done) | (simp [*]; done)), H', ⟨Nat.le_refl _⟩, ⟨by (with_reducible repeat (first | apply Kd.R_alloc | apply Kd.R_drewN | apply Kd.R_drew)); exact Kd.R_mono HO437.out (fun _ hk => hk.2)⟩, ⟨by (with_reducible repeat (first | apply Kd.R_alloc | apply Kd.R_drewN | apply Kd.R_drew)); exact Kd.R_mono HO442.out (fun _ hk => hk.2)⟩, ⟨by repeat (first | (with_reducible first | exact HB.out | apply below_alloc | apply pw_below_drewN | apply below_drew1) | exact HB.out)⟩⟩
   case round =>
    clear H'
    try clear c1
    try clear p2
    try clear c3
    try clear c3b0
    try clear c3b1
    try clear c4
    try clear c4b0
    try clear c4b1
    obtain ⟨x5_1, x6_1, rfl, HA, HK1, HO_3, HO_5, HB⟩ := hrel
    cases gk with
    | zero => exact absurd HA.out (by simp [pianolaref10_back.l0])
    | succ k1 =>
     have H := HA.out
     clear HA
     simp only [pianolaref10_back.l0] at H
     by_cases c8 : x6_1 < (l0.length : Int)
     ·rw [if_pos c8] at H
      have c8b0 : decide (x6_1 < (l0.length : Int)) = true := decide_eq_true c8
      clear c8
      have H' := Aside0.mk H
      clear H
      go_wp2
      go_loopg [7] k1 (fun kq v7 w' => ∃ (x5_2 : List Bool) (x7_2 : Int), v7 = .int .i64 x7_2 ∧ Aside0 (pianolaref10_back.l1 kq l0 t434 x5_2 x6_1 x7_2 = some r) ∧ Aside0 (kq ≤ k1) ∧ Aside0 (Kd.R Kd.bool 4 w' w.heap.size (fun k_ => some k_ ≠ (v441 : Value).ownBlock) v436 t434) ∧ Aside0 (Kd.R Kd.bool 4 w' w.heap.size (fun k_ => some k_ ≠ (v436 : Value).ownBlock) v441 x5_2) ∧ Aside0 (Below w.heap.size w w'))
      case atStart => exact ⟨(x5_1), (0), (by first | rfl | (simp; done) | (simp [*]; done)), H', ⟨Nat.le_refl _⟩, ⟨by (with_reducible repeat (first | apply Kd.R_alloc | apply Kd.R_drewN | apply Kd.R_drew)); exact HO_3.out⟩, ⟨by (with_reducible repeat (first | apply Kd.R_alloc | apply Kd.R_drewN | apply Kd.R_drew)); exact HO_5.out⟩, ⟨by repeat (first | (with_reducible first | exact HB.out | apply below_alloc | apply pw_below_drewN | apply below_drew1) | exact HB.out)⟩⟩
      case round =>
       clear H'
       try clear c1
       try clear p2
       try clear c3
       try clear c3b0
       try clear c3b1
       try clear c4
       try clear c4b0
       try clear c4b1
       try clear c8
       try clear c8b0
       try clear p2
       obtain ⟨x5_2, x7_2, rfl, HA, HK2, HO_3, HO_5, HB⟩ := hrel
       cases gk with
       | zero => exact absurd HA.out (by simp [pianolaref10_back.l1])
       | succ k2 =>
        have H := HA.out
        clear HA
        simp only [pianolaref10_back.l1] at H
        by_cases c9 : x7_2 < (l0.length : Int)
        ·rw [if_pos c9] at H
         have c9b0 : decide (x7_2 < (l0.length : Int)) = true := decide_eq_true c9
         clear c9
         have H' := Aside0.mk H
         clear H
         go_wp2
         go_loopg [8, 9] k2 (fun kq v8 v9 w' => ∃ (x8_3 : Bool) (x9_3 : Int), v8 = .bool x8_3 ∧ v9 = .int .i64 x9_3 ∧ Aside0 (pianolaref10_back.l2 kq l0 t434 x5_2 x6_1 x7_2 x8_3 x9_3 = some r) ∧ Aside0 (kq ≤ k2) ∧ Aside0 (Kd.R Kd.bool 4 w' w.heap.size (fun k_ => some k_ ≠ (v441 : Value).ownBlock) v436 t434) ∧ Aside0 (Kd.R Kd.bool 4 w' w.heap.size (fun k_ => some k_ ≠ (v436 : Value).ownBlock) v441 x5_2) ∧ Aside0 (Below w.heap.size w w'))
         case atStart => exact ⟨(true), (0), (by first | rfl | (simp; done) | (simp [*]; done)), (by first | rfl | (simp; done) | (simp [*]; done)), H', ⟨Nat.le_refl _⟩, ⟨by (with_reducible repeat (first | apply Kd.R_alloc | apply Kd.R_drewN | apply Kd.R_drew)); exact HO_3.out⟩, ⟨by (with_reducible repeat (first | apply Kd.R_alloc | apply Kd.R_drewN | apply Kd.R_drew)); exact HO_5.out⟩, ⟨by repeat (first | (with_reducible first | exact HB.out | apply below_alloc | apply pw_below_drewN | apply below_drew1) | exact HB.out)⟩⟩
         case round =>
          clear H'
          try clear c1
          try clear p2
          try clear c3
          try clear c3b0
          try clear c3b1
          try clear c4
          try clear c4b0
          try clear c4b1
          try clear c8
          try clear c8b0
          try clear c9
          try clear c9b0
          try clear p2
          obtain ⟨x8_3, x9_3, rfl, rfl, HA, HK3, HO_3, HO_5, HB⟩ := hrel
          cases gk with
          | zero => exact absurd HA.out (by simp [pianolaref10_back.l2])
          | succ k3 =>
           have H := HA.out
           clear HA
           simp only [pianolaref10_back.l2] at H
           by_cases c10 : 0 ≤ x7_2
           ·rw [if_pos c10] at H
            have c10b0 : decide (0 ≤ x7_2) = true := decide_eq_true c10
            clear c10
            by_cases c11 : x7_2 < (l0.length : Int)
            ·rw [if_pos c11] at H
             have c11b0 : decide (x7_2 < (l0.length : Int)) = true := decide_eq_true c11
             clear c11
             by_cases c12 : x9_3 < (((rd_T30 l0 x7_2).f2).length : Int)
             ·rw [if_pos c12] at H
              have c12b0 : decide (x9_3 < (((rd_T30 l0 x7_2).f2).length : Int)) = true := decide_eq_true c12
              clear c12
              by_cases c13 : 0 ≤ x9_3
              ·rw [if_pos c13] at H
               have c13b0 : decide (0 ≤ x9_3) = true := decide_eq_true c13
               clear c13
               by_cases c14 : (rd ((rd_T30 l0 x7_2).f2) x9_3) ≥ 0
               ·rw [if_pos c14] at H
                have c14b0 : decide (0 ≤ (rd ((rd_T30 l0 x7_2).f2) x9_3)) = true := decide_eq_true c14
                clear c14
                by_cases c15 : (rd ((rd_T30 l0 x7_2).f2) x9_3) < (l0.length : Int)
                ·rw [if_pos c15] at H
                 have c15b0 : decide ((rd ((rd_T30 l0 x7_2).f2) x9_3) < (l0.length : Int)) = true := decide_eq_true c15
                 clear c15
                 by_cases c16 : 0 ≤ (rd ((rd_T30 l0 x7_2).f2) x9_3)
                 ·rw [if_pos c16] at H
                  have c16b0 : decide (0 ≤ (rd ((rd_T30 l0 x7_2).f2) x9_3)) = true := decide_eq_true c16
                  clear c16
                  by_cases c17 : (rd ((rd_T30 l0 x7_2).f2) x9_3) < (x5_2.length : Int)
                  ·rw [if_pos c17] at H
                   have c17b0 : decide ((rd ((rd_T30 l0 x7_2).f2) x9_3) < (x5_2.length : Int)) = true := decide_eq_true c17
                   clear c17
                   obtain ⟨bq18, hbq18⟩ : ∃ b_ : Bool, b_ = (rdOf false x5_2 (rd ((rd_T30 l0 x7_2).f2) x9_3)) := ⟨_, rfl⟩
                   replace H : (if (bq18 = true) then (pianolaref10_back.l2 k3 l0 t434 x5_2 x6_1 x7_2 x8_3 (wrap64 (x9_3 + 1))) else (pianolaref10_back.l2 k3 l0 t434 x5_2 x6_1 x7_2 false (wrap64 (x9_3 + 1)))) = some r := by rw [← hbq18] at H; exact H
                   have Nbq18 := Aside0.mk hbq18
                   clear hbq18
                   by_cases c19 : (bq18 = true)
                   ·subst c19
                    have H1 : (pianolaref10_back.l2 k3 l0 t434 x5_2 x6_1 x7_2 x8_3 (wrap64 (x9_3 + 1))) = some r := by rw [if_pos rfl] at H; exact H
                    clear H
                    have H := H1
                    clear H1
                    have H' := Aside0.mk H
                    clear H
                    have p443 : 0 ≤ (x7_2 : Int) := of_decide_eq_true (by first | (with_reducible assumption) | assumption)
                    have q443 : x7_2 < (l0.length : Int) := of_decide_eq_true (by first | (with_reducible assumption) | assumption)
                    obtain ⟨ad443, A443_2, c443_2, e443, hx443_0, hx443_1, hx443_2, hl443_2, hi443_2⟩ := at_T30 HR0.out x7_2 p443 q443
                    cases e443
                    replace hx443_0 := (HB.out.cell (World.block_lt_of_cell? w _ hx443_0)).trans hx443_0
                    replace hx443_1 := (HB.out.cell (World.block_lt_of_cell? w _ hx443_1)).trans hx443_1
                    replace hx443_2 := (HB.out.cell (World.block_lt_of_cell? w _ hx443_2)).trans hx443_2
                    have HR443_2 := Aside0.mk hi443_2
                    have HC443_2 := Aside0.mk hl443_2
                    clear hi443_2 hl443_2
                    replace p443 := eq_true p443
                    replace q443 := eq_true q443
                    have p444 : 0 ≤ (x7_2 : Int) := of_decide_eq_true (by first | (with_reducible assumption) | assumption)
                    have q444 : x7_2 < (l0.length : Int) := of_decide_eq_true (by first | (with_reducible assumption) | assumption)
                    obtain ⟨ad444, A444_2, c444_2, e444, hx444_0, hx444_1, hx444_2, hl444_2, hi444_2⟩ := at_T30 HR0.out x7_2 p444 q444
                    obtain rfl : ad443 = ad444 := (by injection e444)
                    replace hx444_0 := (HB.out.cell (World.block_lt_of_cell? w _ hx444_0)).trans hx444_0
                    replace hx444_1 := (HB.out.cell (World.block_lt_of_cell? w _ hx444_1)).trans hx444_1
                    replace hx444_2 := (HB.out.cell (World.block_lt_of_cell? w _ hx444_2)).trans hx444_2
                    have HR444_2 := Aside0.mk hi444_2
                    have HC444_2 := Aside0.mk hl444_2
                    clear hi444_2 hl444_2
                    replace p444 := eq_true p444
                    replace q444 := eq_true q444
                    have ea_ := Option.some.inj (hx443_2.symm.trans hx444_2)
                    injection ea_ with ea_ en_ ec_
                    subst ea_
                    subst ec_
                    clear en_
                    have p445 : 0 ≤ (x9_3 : Int) := of_decide_eq_true (by first | (with_reducible assumption) | assumption)
                    have q445 : x9_3 < (((rd_T30 l0 x7_2).f2).length : Int) := of_decide_eq_true (by first | (with_reducible assumption) | assumption)
                    obtain ⟨ad445, e445, hx445_0⟩ := Kd.at_int HR444_2.out x9_3 p445 q445
                    cases e445
                    replace hx445_0 := (HB.out.cell (World.block_lt_of_cell? w _ hx445_0)).trans hx445_0
                    replace p445 := eq_true p445
                    replace q445 := eq_true q445
                    obtain ⟨Ao20, co20, eo20⟩ := Kd.R_slice HO_5.out
                    subst eo20
                    have p446 : 0 ≤ ((rd ((rd_T30 l0 x7_2).f2) x9_3) : Int) := of_decide_eq_true (by first | (with_reducible assumption) | assumption)
                    have q446 : (rd ((rd_T30 l0 x7_2).f2) x9_3) < (x5_2.length : Int) := of_decide_eq_true (by first | (with_reducible assumption) | assumption)
                    obtain ⟨ad446, e446, hx446_0⟩ := Kd.at_bool (Kd.R_reads' HO_5.out).2.2 (rd ((rd_T30 l0 x7_2).f2) x9_3) p446 q446
                    (try rw [← Nbq18.out] at hx446_0)
                    cases e446
                    replace p446 := eq_true p446
                    replace q446 := eq_true q446
                    go_wp2
                    go_roundg k3
                    case measure => have := HK1.out; have := HK2.out; have := HK3.out; omega
                    case rel => exact ⟨(x8_3), (wrap64 (x9_3 + 1)), (by first | rfl | (simp; done) | (simp [*]; done)), (by first | rfl | (simp; done) | (simp [*]; done)), H', ⟨by have := HK1.out; have := HK2.out; have := HK3.out; omega⟩, ⟨by (with_reducible repeat (first | apply Kd.R_alloc | apply Kd.R_drewN | apply Kd.R_drew)); exact HO_3.out⟩, ⟨by (with_reducible repeat (first | apply Kd.R_alloc | apply Kd.R_drewN | apply Kd.R_drew)); exact HO_5.out⟩, ⟨by repeat (first | (with_reducible first | exact HB.out | apply below_alloc | apply pw_below_drewN | apply below_drew1) | exact HB.out)⟩⟩
                   ·replace c19 := Bool.eq_false_iff.mpr c19
                    subst c19
                    have H1 : (pianolaref10_back.l2 k3 l0 t434 x5_2 x6_1 x7_2 false (wrap64 (x9_3 + 1))) = some r := by rw [if_neg (show ¬ (false = true) by decide)] at H; exact H
                    clear H
                    have H := H1
                    clear H1
                    have H' := Aside0.mk H
                    clear H
                    have p443 : 0 ≤ (x7_2 : Int) := of_decide_eq_true (by first | (with_reducible assumption) | assumption)
                    have q443 : x7_2 < (l0.length : Int) := of_decide_eq_true (by first | (with_reducible assumption) | assumption)
                    obtain ⟨ad443, A443_2, c443_2, e443, hx443_0, hx443_1, hx443_2, hl443_2, hi443_2⟩ := at_T30 HR0.out x7_2 p443 q443
                    cases e443
                    replace hx443_0 := (HB.out.cell (World.block_lt_of_cell? w _ hx443_0)).trans hx443_0
                    replace hx443_1 := (HB.out.cell (World.block_lt_of_cell? w _ hx443_1)).trans hx443_1
                    replace hx443_2 := (HB.out.cell (World.block_lt_of_cell? w _ hx443_2)).trans hx443_2
                    have HR443_2 := Aside0.mk hi443_2
                    have HC443_2 := Aside0.mk hl443_2
                    clear hi443_2 hl443_2
                    replace p443 := eq_true p443
                    replace q443 := eq_true q443
                    have p444 : 0 ≤ (x7_2 : Int) := of_decide_eq_true (by first | (with_reducible assumption) | assumption)
                    have q444 : x7_2 < (l0.length : Int) := of_decide_eq_true (by first | (with_reducible assumption) | assumption)
                    obtain ⟨ad444, A444_2, c444_2, e444, hx444_0, hx444_1, hx444_2, hl444_2, hi444_2⟩ := at_T30 HR0.out x7_2 p444 q444
                    obtain rfl : ad443 = ad444 := (by injection e444)
                    replace hx444_0 := (HB.out.cell (World.block_lt_of_cell? w _ hx444_0)).trans hx444_0
                    replace hx444_1 := (HB.out.cell (World.block_lt_of_cell? w _ hx444_1)).trans hx444_1
                    replace hx444_2 := (HB.out.cell (World.block_lt_of_cell? w _ hx444_2)).trans hx444_2
                    have HR444_2 := Aside0.mk hi444_2
                    have HC444_2 := Aside0.mk hl444_2
                    clear hi444_2 hl444_2
                    replace p444 := eq_true p444
                    replace q444 := eq_true q444
                    have ea_ := Option.some.inj (hx443_2.symm.trans hx444_2)
                    injection ea_ with ea_ en_ ec_
                    subst ea_
                    subst ec_
                    clear en_
                    have p445 : 0 ≤ (x9_3 : Int) := of_decide_eq_true (by first | (with_reducible assumption) | assumption)
                    have q445 : x9_3 < (((rd_T30 l0 x7_2).f2).length : Int) := of_decide_eq_true (by first | (with_reducible assumption) | assumption)
                    obtain ⟨ad445, e445, hx445_0⟩ := Kd.at_int HR444_2.out x9_3 p445 q445
                    cases e445
                    replace hx445_0 := (HB.out.cell (World.block_lt_of_cell? w _ hx445_0)).trans hx445_0
                    replace p445 := eq_true p445
                    replace q445 := eq_true q445
                    obtain ⟨Ao21, co21, eo21⟩ := Kd.R_slice HO_5.out
                    subst eo21
                    have p446 : 0 ≤ ((rd ((rd_T30 l0 x7_2).f2) x9_3) : Int) := of_decide_eq_true (by first | (with_reducible assumption) | assumption)
                    have q446 : (rd ((rd_T30 l0 x7_2).f2) x9_3) < (x5_2.length : Int) := of_decide_eq_true (by first | (with_reducible assumption) | assumption)
                    obtain ⟨ad446, e446, hx446_0⟩ := Kd.at_bool (Kd.R_reads' HO_5.out).2.2 (rd ((rd_T30 l0 x7_2).f2) x9_3) p446 q446
                    (try rw [← Nbq18.out] at hx446_0)
                    cases e446
                    replace p446 := eq_true p446
                    replace q446 := eq_true q446
                    go_wp2
                    go_roundg k3
                    case measure => have := HK1.out; have := HK2.out; have := HK3.out; omega
                    case rel => exact ⟨(false), (wrap64 (x9_3 + 1)), (by first | rfl | (simp; done) | (simp [*]; done)), (by first | rfl | (simp; done) | (simp [*]; done)), H', ⟨by have := HK1.out; have := HK2.out; have := HK3.out; omega⟩, ⟨by (with_reducible repeat (first | apply Kd.R_alloc | apply Kd.R_drewN | apply Kd.R_drew)); exact HO_3.out⟩, ⟨by (with_reducible repeat (first | apply Kd.R_alloc | apply Kd.R_drewN | apply Kd.R_drew)); exact HO_5.out⟩, ⟨by repeat (first | (with_reducible first | exact HB.out | apply below_alloc | apply pw_below_drewN | apply below_drew1) | exact HB.out)⟩⟩
                  ·rw [if_neg c17] at H
                   exact absurd H (by simp)
                 ·rw [if_neg c16] at H
                  exact absurd H (by simp)
                ·rw [if_neg c15] at H
                 have c15b0 : decide ((rd ((rd_T30 l0 x7_2).f2) x9_3) < (l0.length : Int)) = false := decide_eq_false c15
                 clear c15
                 have H' := Aside0.mk H
                 clear H
                 have p443 : 0 ≤ (x7_2 : Int) := of_decide_eq_true (by first | (with_reducible assumption) | assumption)
                 have q443 : x7_2 < (l0.length : Int) := of_decide_eq_true (by first | (with_reducible assumption) | assumption)
                 obtain ⟨ad443, A443_2, c443_2, e443, hx443_0, hx443_1, hx443_2, hl443_2, hi443_2⟩ := at_T30 HR0.out x7_2 p443 q443
                 cases e443
                 replace hx443_0 := (HB.out.cell (World.block_lt_of_cell? w _ hx443_0)).trans hx443_0
                 replace hx443_1 := (HB.out.cell (World.block_lt_of_cell? w _ hx443_1)).trans hx443_1
                 replace hx443_2 := (HB.out.cell (World.block_lt_of_cell? w _ hx443_2)).trans hx443_2
                 have HR443_2 := Aside0.mk hi443_2
                 have HC443_2 := Aside0.mk hl443_2
                 clear hi443_2 hl443_2
                 replace p443 := eq_true p443
                 replace q443 := eq_true q443
                 have p444 : 0 ≤ (x7_2 : Int) := of_decide_eq_true (by first | (with_reducible assumption) | assumption)
                 have q444 : x7_2 < (l0.length : Int) := of_decide_eq_true (by first | (with_reducible assumption) | assumption)
                 obtain ⟨ad444, A444_2, c444_2, e444, hx444_0, hx444_1, hx444_2, hl444_2, hi444_2⟩ := at_T30 HR0.out x7_2 p444 q444
                 obtain rfl : ad443 = ad444 := (by injection e444)
                 replace hx444_0 := (HB.out.cell (World.block_lt_of_cell? w _ hx444_0)).trans hx444_0
                 replace hx444_1 := (HB.out.cell (World.block_lt_of_cell? w _ hx444_1)).trans hx444_1
                 replace hx444_2 := (HB.out.cell (World.block_lt_of_cell? w _ hx444_2)).trans hx444_2
                 have HR444_2 := Aside0.mk hi444_2
                 have HC444_2 := Aside0.mk hl444_2
                 clear hi444_2 hl444_2
                 replace p444 := eq_true p444
                 replace q444 := eq_true q444
                 have ea_ := Option.some.inj (hx443_2.symm.trans hx444_2)
                 injection ea_ with ea_ en_ ec_
                 subst ea_
                 subst ec_
                 clear en_
                 have p445 : 0 ≤ (x9_3 : Int) := of_decide_eq_true (by first | (with_reducible assumption) | assumption)
                 have q445 : x9_3 < (((rd_T30 l0 x7_2).f2).length : Int) := of_decide_eq_true (by first | (with_reducible assumption) | assumption)
                 obtain ⟨ad445, e445, hx445_0⟩ := Kd.at_int HR444_2.out x9_3 p445 q445
                 cases e445
                 replace hx445_0 := (HB.out.cell (World.block_lt_of_cell? w _ hx445_0)).trans hx445_0
                 replace p445 := eq_true p445
                 replace q445 := eq_true q445
                 go_wp2
                 go_roundg k3
                 case measure => have := HK1.out; have := HK2.out; have := HK3.out; omega
                 case rel => exact ⟨(x8_3), (wrap64 (x9_3 + 1)), (by first | rfl | (simp; done) | (simp [*]; done)), (by first | rfl | (simp; done) | (simp [*]; done)), H', ⟨by have := HK1.out; have := HK2.out; have := HK3.out; omega⟩, ⟨by (with_reducible repeat (first | apply Kd.R_alloc | apply Kd.R_drewN | apply Kd.R_drew)); exact HO_3.out⟩, ⟨by (with_reducible repeat (first | apply Kd.R_alloc | apply Kd.R_drewN | apply Kd.R_drew)); exact HO_5.out⟩, ⟨by repeat (first | (with_reducible first | exact HB.out | apply below_alloc | apply pw_below_drewN | apply below_drew1) | exact HB.out)⟩⟩
               ·rw [if_neg c14] at H
                have c14b0 : decide (0 ≤ (rd ((rd_T30 l0 x7_2).f2) x9_3)) = false := decide_eq_false c14
                clear c14
                have H' := Aside0.mk H
                clear H
                have p443 : 0 ≤ (x7_2 : Int) := of_decide_eq_true (by first | (with_reducible assumption) | assumption)
                have q443 : x7_2 < (l0.length : Int) := of_decide_eq_true (by first | (with_reducible assumption) | assumption)
                obtain ⟨ad443, A443_2, c443_2, e443, hx443_0, hx443_1, hx443_2, hl443_2, hi443_2⟩ := at_T30 HR0.out x7_2 p443 q443
                cases e443
                replace hx443_0 := (HB.out.cell (World.block_lt_of_cell? w _ hx443_0)).trans hx443_0
                replace hx443_1 := (HB.out.cell (World.block_lt_of_cell? w _ hx443_1)).trans hx443_1
                replace hx443_2 := (HB.out.cell (World.block_lt_of_cell? w _ hx443_2)).trans hx443_2
                have HR443_2 := Aside0.mk hi443_2
                have HC443_2 := Aside0.mk hl443_2
                clear hi443_2 hl443_2
                replace p443 := eq_true p443
                replace q443 := eq_true q443
                have p444 : 0 ≤ (x7_2 : Int) := of_decide_eq_true (by first | (with_reducible assumption) | assumption)
                have q444 : x7_2 < (l0.length : Int) := of_decide_eq_true (by first | (with_reducible assumption) | assumption)
                obtain ⟨ad444, A444_2, c444_2, e444, hx444_0, hx444_1, hx444_2, hl444_2, hi444_2⟩ := at_T30 HR0.out x7_2 p444 q444
                obtain rfl : ad443 = ad444 := (by injection e444)
                replace hx444_0 := (HB.out.cell (World.block_lt_of_cell? w _ hx444_0)).trans hx444_0
                replace hx444_1 := (HB.out.cell (World.block_lt_of_cell? w _ hx444_1)).trans hx444_1
                replace hx444_2 := (HB.out.cell (World.block_lt_of_cell? w _ hx444_2)).trans hx444_2
                have HR444_2 := Aside0.mk hi444_2
                have HC444_2 := Aside0.mk hl444_2
                clear hi444_2 hl444_2
                replace p444 := eq_true p444
                replace q444 := eq_true q444
                have ea_ := Option.some.inj (hx443_2.symm.trans hx444_2)
                injection ea_ with ea_ en_ ec_
                subst ea_
                subst ec_
                clear en_
                have p445 : 0 ≤ (x9_3 : Int) := of_decide_eq_true (by first | (with_reducible assumption) | assumption)
                have q445 : x9_3 < (((rd_T30 l0 x7_2).f2).length : Int) := of_decide_eq_true (by first | (with_reducible assumption) | assumption)
                obtain ⟨ad445, e445, hx445_0⟩ := Kd.at_int HR444_2.out x9_3 p445 q445
                cases e445
                replace hx445_0 := (HB.out.cell (World.block_lt_of_cell? w _ hx445_0)).trans hx445_0
                replace p445 := eq_true p445
                replace q445 := eq_true q445
                go_wp2
                go_roundg k3
                case measure => have := HK1.out; have := HK2.out; have := HK3.out; omega
                case rel => exact ⟨(x8_3), (wrap64 (x9_3 + 1)), (by first | rfl | (simp; done) | (simp [*]; done)), (by first | rfl | (simp; done) | (simp [*]; done)), H', ⟨by have := HK1.out; have := HK2.out; have := HK3.out; omega⟩, ⟨by (with_reducible repeat (first | apply Kd.R_alloc | apply Kd.R_drewN | apply Kd.R_drew)); exact HO_3.out⟩, ⟨by (with_reducible repeat (first | apply Kd.R_alloc | apply Kd.R_drewN | apply Kd.R_drew)); exact HO_5.out⟩, ⟨by repeat (first | (with_reducible first | exact HB.out | apply below_alloc | apply pw_below_drewN | apply below_drew1) | exact HB.out)⟩⟩
              ·rw [if_neg c13] at H
               exact absurd H (by simp)
             ·rw [if_neg c12] at H
              have c12b0 : decide (x9_3 < (((rd_T30 l0 x7_2).f2).length : Int)) = false := decide_eq_false c12
              clear c12
              by_cases c22 : x8_3 = true
              ·subst c22
               have H1 : (if x7_2 < (x5_2.length : Int) then (pianolaref10_back.l1 k3 l0 t434 (x5_2.set (x7_2 : Int).toNat true) x6_1 (wrap64 (x7_2 + 1))) else (none)) = some r := by rw [if_pos rfl] at H; exact H
               clear H
               have H := H1
               clear H1
               by_cases c23 : x7_2 < (x5_2.length : Int)
               ·rw [if_pos c23] at H
                have c23b0 : decide (x7_2 < (x5_2.length : Int)) = true := decide_eq_true c23
                clear c23
                obtain ⟨y447, hy447⟩ : ∃ y_ : List Bool, y_ = (x5_2.set (x7_2 : Int).toNat true) := ⟨_, rfl⟩
                replace H : (pianolaref10_back.l1 k3 l0 t434 y447 x6_1 (wrap64 (x7_2 + 1))) = some r := by first | (rw [hy447]; with_reducible exact H) | (have H2_ := (Option.bind_some _ _).symm.trans H; rw [hy447]; with_reducible exact H2_) | (have H2_ := (Option.bind_some _ _).symm.trans H; with_reducible exact H2_) | with_reducible exact H | (rw [hy447]; exact H) | exact H
                have Ny447 := Aside0.mk hy447
                clear hy447
                have H' := Aside0.mk H
                clear H
                have p443 : 0 ≤ (x7_2 : Int) := of_decide_eq_true (by first | (with_reducible assumption) | assumption)
                have q443 : x7_2 < (l0.length : Int) := of_decide_eq_true (by first | (with_reducible assumption) | assumption)
                obtain ⟨ad443, A443_2, c443_2, e443, hx443_0, hx443_1, hx443_2, hl443_2, hi443_2⟩ := at_T30 HR0.out x7_2 p443 q443
                cases e443
                replace hx443_0 := (HB.out.cell (World.block_lt_of_cell? w _ hx443_0)).trans hx443_0
                replace hx443_1 := (HB.out.cell (World.block_lt_of_cell? w _ hx443_1)).trans hx443_1
                replace hx443_2 := (HB.out.cell (World.block_lt_of_cell? w _ hx443_2)).trans hx443_2
                have HR443_2 := Aside0.mk hi443_2
                have HC443_2 := Aside0.mk hl443_2
                clear hi443_2 hl443_2
                replace p443 := eq_true p443
                replace q443 := eq_true q443
                have p24 : 0 ≤ (x7_2 : Int) := of_decide_eq_true (by first | (with_reducible assumption) | assumption)
                have q24 : (x7_2 : Int) < ((x5_2.length : Int) : Int) := of_decide_eq_true (by first | (with_reducible assumption) | assumption)
                obtain ⟨go24, co24, eo24, gb24, gl24, cl24, HG24⟩ := Kd.R_form HO_5.out (by omega)
                (first | cases eo24 | (injection eo24 with ea_ en_ ec_; (first | subst ea_ | (injection ea_ with ea_; subst ea_)); subst ec_; clear en_))
                have GB24 := Aside0.mk gb24
                have GG24 := Aside0.mk HG24
                clear gb24 gl24 HG24
                obtain ⟨hx24_0, hf24_0⟩ := Kd.R_celln false HO_5.out (x7_2 : Int) p24 q24
                replace p24 := eq_true p24
                replace q24 := eq_true q24
                have HP25 := Kd.R_putg HO_5.out (x7_2 : Int) true
                go_wp2_with (first | ((with_reducible refine gate_store (t := 4) (p := 68) rfl ?_); refine store_event (t := 4) (p := 68) (v := ?vo_w26) (w1 := (wr.setCell ⟨go24, (x7_2 : Int).toNat, none⟩ (.bool true))) ?hg ?ho ?hn ?hr ?_; (case ho => rfl); (case hg => rfl); (case hn => rfl); (case hr => first | (go_simp; done) | (go_simp; rfl)); intro w26 hw; have hg : wr.grownBy w26 (some go24) := (by rw [hw]; exact HP25.2); have hp_ : Kd.R Kd.bool 4 w26 w.heap.size (fun k_ => some k_ ≠ (v436 : Value).ownBlock) (.slice (some ⟨go24, 0, none⟩) x5_2.length co24) y447 := (by rw [hw, Ny447.out]; exact HP25.1); clear HP25; have n0_ := Aside0.mk (Kd.R_after (v := (.slice (some ⟨go24, 0, none⟩) x5_2.length co24)) (v1 := (.slice (some ⟨go24, 0, none⟩) x5_2.length co24)) (ok := (fun _ => True)) (by (with_reducible repeat (first | apply Kd.R_alloc | apply Kd.R_drewN | apply Kd.R_drew)); exact Kd.R_mono HO_3.out (fun _ hk => ⟨trivial, hk⟩)) hg (.inl rfl)); have n1_ := Aside0.mk (hp_); have n2_ := Aside0.mk ((by rw [hw]; exact below_set (HB.out) GB24.out : Below w.heap.size w w26)); clear HO_3; clear HO_5; clear HB; have HO_3 := n0_; have HO_5 := n1_; have HB := n2_; clear n0_ n1_ n2_; clear hg hw hp_))
                go_roundg k3
                case measure => have := HK1.out; have := HK2.out; have := HK3.out; omega
                case rel => exact ⟨(y447), (wrap64 (x7_2 + 1)), (by first | rfl | (simp; done) | (simp [*]; done)), H', ⟨by have := HK1.out; have := HK2.out; have := HK3.out; omega⟩, ⟨by (with_reducible repeat (first | apply Kd.R_alloc | apply Kd.R_drewN | apply Kd.R_drew)); exact Kd.R_mono HO_3.out (fun _ hk => hk.2)⟩, ⟨by (with_reducible repeat (first | apply Kd.R_alloc | apply Kd.R_drewN | apply Kd.R_drew)); exact HO_5.out⟩, ⟨by repeat (first | (with_reducible first | exact HB.out | apply below_alloc | apply pw_below_drewN | apply below_drew1) | exact HB.out)⟩⟩
               ·rw [if_neg c23] at H
                exact absurd H (by simp)
              ·replace c22 := Bool.eq_false_iff.mpr c22
               subst c22
               have H1 : (pianolaref10_back.l1 k3 l0 t434 x5_2 x6_1 (wrap64 (x7_2 + 1))) = some r := by rw [if_neg (show ¬ (false = true) by decide)] at H; exact H
               clear H
               have H := H1
               clear H1
               have H' := Aside0.mk H
               clear H
               have p443 : 0 ≤ (x7_2 : Int) := of_decide_eq_true (by first | (with_reducible assumption) | assumption)
               have q443 : x7_2 < (l0.length : Int) := of_decide_eq_true (by first | (with_reducible assumption) | assumption)
               obtain ⟨ad443, A443_2, c443_2, e443, hx443_0, hx443_1, hx443_2, hl443_2, hi443_2⟩ := at_T30 HR0.out x7_2 p443 q443
               cases e443
               replace hx443_0 := (HB.out.cell (World.block_lt_of_cell? w _ hx443_0)).trans hx443_0
               replace hx443_1 := (HB.out.cell (World.block_lt_of_cell? w _ hx443_1)).trans hx443_1
               replace hx443_2 := (HB.out.cell (World.block_lt_of_cell? w _ hx443_2)).trans hx443_2
               have HR443_2 := Aside0.mk hi443_2
               have HC443_2 := Aside0.mk hl443_2
               clear hi443_2 hl443_2
               replace p443 := eq_true p443
               replace q443 := eq_true q443
               go_wp2
               go_roundg k3
               case measure => have := HK1.out; have := HK2.out; have := HK3.out; omega
               case rel => exact ⟨(x5_2), (wrap64 (x7_2 + 1)), (by first | rfl | (simp; done) | (simp [*]; done)), H', ⟨by have := HK1.out; have := HK2.out; have := HK3.out; omega⟩, ⟨by (with_reducible repeat (first | apply Kd.R_alloc | apply Kd.R_drewN | apply Kd.R_drew)); exact HO_3.out⟩, ⟨by (with_reducible repeat (first | apply Kd.R_alloc | apply Kd.R_drewN | apply Kd.R_drew)); exact HO_5.out⟩, ⟨by repeat (first | (with_reducible first | exact HB.out | apply below_alloc | apply pw_below_drewN | apply below_drew1) | exact HB.out)⟩⟩
            ·rw [if_neg c11] at H
             exact absurd H (by simp)
           ·rw [if_neg c10] at H
            exact absurd H (by simp)
        ·rw [if_neg c9] at H
         have c9b0 : decide (x7_2 < (l0.length : Int)) = false := decide_eq_false c9
         clear c9
         have H' := Aside0.mk H
         clear H
         go_wp2
         go_roundg k2
         case measure => have := HK1.out; have := HK2.out; omega
         case rel => exact ⟨(x5_2), (wrap64 (x6_1 + 1)), (by first | rfl | (simp; done) | (simp [*]; done)), H', ⟨by have := HK1.out; have := HK2.out; omega⟩, ⟨by (with_reducible repeat (first | apply Kd.R_alloc | apply Kd.R_drewN | apply Kd.R_drew)); exact HO_3.out⟩, ⟨by (with_reducible repeat (first | apply Kd.R_alloc | apply Kd.R_drewN | apply Kd.R_drew)); exact HO_5.out⟩, ⟨by repeat (first | (with_reducible first | exact HB.out | apply below_alloc | apply pw_below_drewN | apply below_drew1) | exact HB.out)⟩⟩
     ·rw [if_neg c8] at H
      have c8b0 : decide (x6_1 < (l0.length : Int)) = false := decide_eq_false c8
      clear c8
      have H' := Aside0.mk H
      clear H
      go_wp2
      go_loopg [11] k1 (fun kq v11 w' => ∃ (x11_2 : Int), v11 = .int .i64 x11_2 ∧ Aside0 (pianolaref10_back.l3 kq l0 t434 x5_1 x11_2 = some r) ∧ Aside0 (kq ≤ k1) ∧ Aside0 (Kd.R Kd.bool 4 w' w.heap.size (fun k_ => some k_ ≠ (v441 : Value).ownBlock) v436 t434) ∧ Aside0 (Kd.R Kd.bool 4 w' w.heap.size (fun k_ => some k_ ≠ (v436 : Value).ownBlock) v441 x5_1) ∧ Aside0 (Below w.heap.size w w'))
      case atStart => exact ⟨(0), (by first | rfl | (simp; done) | (simp [*]; done)), H', ⟨Nat.le_refl _⟩, ⟨by (with_reducible repeat (first | apply Kd.R_alloc | apply Kd.R_drewN | apply Kd.R_drew)); exact HO_3.out⟩, ⟨by (with_reducible repeat (first | apply Kd.R_alloc | apply Kd.R_drewN | apply Kd.R_drew)); exact HO_5.out⟩, ⟨by repeat (first | (with_reducible first | exact HB.out | apply below_alloc | apply pw_below_drewN | apply below_drew1) | exact HB.out)⟩⟩
      case round =>
       clear H'
       try clear c1
       try clear q1
       try clear c2
       try clear p2
       try clear q2
       try clear hx2
       try clear hf2
       try clear c3
       try clear c3b0
       try clear c3b1
       try clear c4
       try clear c4b0
       try clear c4b1
       try clear p4
       try clear q4
       try clear hx4
       try clear p6
       try clear c8
       try clear c8b0
       try clear c9
       try clear c9b0
       try clear c10
       try clear c10b0
       try clear c11
       try clear c11b0
       try clear c12
       try clear c12b0
       try clear c13
       try clear c13b0
       try clear c14
       try clear c14b0
       try clear c15
       try clear c15b0
       try clear c16
       try clear c16b0
       try clear c17
       try clear c17b0
       try clear q18
       try clear c19
       try clear c22
       try clear c23
       try clear c23b0
       try clear p24
       try clear q24
       try clear hx24
       try clear hf24
       try clear hx24_0
       try clear hx443_0
       try clear hx443_1
       try clear hx443_2
       try clear hx444_0
       try clear hx444_1
       try clear hx444_2
       try clear hx445_0
       try clear hx446_0
       try clear p2
       try clear p24
       try clear p443
       try clear p444
       try clear p445
       try clear p446
       try clear q24
       try clear q443
       try clear q444
       try clear q445
       try clear q446
       obtain ⟨x11_2, rfl, HA, HK2, HO_3, HO_5, HB⟩ := hrel
       cases gk with
       | zero => exact absurd HA.out (by simp [pianolaref10_back.l3])
       | succ k2 =>
        have H := HA.out
        clear HA
        simp only [pianolaref10_back.l3] at H
        by_cases c27 : x11_2 < (l0.length : Int)
        ·rw [if_pos c27] at H
         have c27b0 : decide (x11_2 < (l0.length : Int)) = true := decide_eq_true c27
         clear c27
         by_cases c28 : 0 ≤ x11_2
         ·rw [if_pos c28] at H
          have c28b0 : decide (0 ≤ x11_2) = true := decide_eq_true c28
          clear c28
          by_cases c29 : x11_2 < (t434.length : Int)
          ·rw [if_pos c29] at H
           have c29b0 : decide (x11_2 < (t434.length : Int)) = true := decide_eq_true c29
           clear c29
           obtain ⟨bq30, hbq30⟩ : ∃ b_ : Bool, b_ = (rdOf false t434 x11_2) := ⟨_, rfl⟩
           replace H : (if bq30 = true then (if x11_2 < (x5_1.length : Int) then (if rdOf false x5_1 x11_2 = true then (pianolaref10_back.l3 k2 l0 t434 x5_1 (wrap64 (x11_2 + 1))) else (some true)) else (none)) else (pianolaref10_back.l3 k2 l0 t434 x5_1 (wrap64 (x11_2 + 1)))) = some r := by rw [← hbq30] at H; exact H
           have Nbq30 := Aside0.mk hbq30
           clear hbq30
           by_cases c31 : bq30 = true
           ·subst c31
            have H1 : (if x11_2 < (x5_1.length : Int) then (if rdOf false x5_1 x11_2 = true then (pianolaref10_back.l3 k2 l0 t434 x5_1 (wrap64 (x11_2 + 1))) else (some true)) else (none)) = some r := by rw [if_pos rfl] at H; exact H
            clear H
            have H := H1
            clear H1
            by_cases c32 : x11_2 < (x5_1.length : Int)
            ·rw [if_pos c32] at H
             have c32b0 : decide (x11_2 < (x5_1.length : Int)) = true := decide_eq_true c32
             clear c32
             obtain ⟨bq33, hbq33⟩ : ∃ b_ : Bool, b_ = (rdOf false x5_1 x11_2) := ⟨_, rfl⟩
             replace H : (if bq33 = true then (pianolaref10_back.l3 k2 l0 t434 x5_1 (wrap64 (x11_2 + 1))) else (some true)) = some r := by rw [← hbq33] at H; exact H
             have Nbq33 := Aside0.mk hbq33
             clear hbq33
             by_cases c34 : bq33 = true
             ·subst c34
              have H1 : (pianolaref10_back.l3 k2 l0 t434 x5_1 (wrap64 (x11_2 + 1))) = some r := by rw [if_pos rfl] at H; exact H
              clear H
              have H := H1
              clear H1
              have H' := Aside0.mk H
              clear H
              obtain ⟨Ao35, co35, eo35⟩ := Kd.R_slice HO_3.out
              subst eo35
              have p448 : 0 ≤ (x11_2 : Int) := of_decide_eq_true (by first | (with_reducible assumption) | assumption)
              have q448 : x11_2 < (t434.length : Int) := of_decide_eq_true (by first | (with_reducible assumption) | assumption)
              obtain ⟨ad448, e448, hx448_0⟩ := Kd.at_bool (Kd.R_reads' HO_3.out).2.2 x11_2 p448 q448
              (try rw [← Nbq30.out] at hx448_0)
              (try rw [← Nbq33.out] at hx448_0)
              cases e448
              replace p448 := eq_true p448
              replace q448 := eq_true q448
              obtain ⟨Ao36, co36, eo36⟩ := Kd.R_slice HO_5.out
              subst eo36
              have p449 : 0 ≤ (x11_2 : Int) := of_decide_eq_true (by first | (with_reducible assumption) | assumption)
              have q449 : x11_2 < (x5_1.length : Int) := of_decide_eq_true (by first | (with_reducible assumption) | assumption)
              obtain ⟨ad449, e449, hx449_0⟩ := Kd.at_bool (Kd.R_reads' HO_5.out).2.2 x11_2 p449 q449
              (try rw [← Nbq30.out] at hx449_0)
              (try rw [← Nbq33.out] at hx449_0)
              cases e449
              replace p449 := eq_true p449
              replace q449 := eq_true q449
              go_wp2
              go_roundg k2
              case measure => have := HK1.out; have := HK2.out; omega
              case rel => exact ⟨(wrap64 (x11_2 + 1)), (by first | rfl | (simp; done) | (simp [*]; done)), H', ⟨by have := HK1.out; have := HK2.out; omega⟩, ⟨by (with_reducible repeat (first | apply Kd.R_alloc | apply Kd.R_drewN | apply Kd.R_drew)); exact HO_3.out⟩, ⟨by (with_reducible repeat (first | apply Kd.R_alloc | apply Kd.R_drewN | apply Kd.R_drew)); exact HO_5.out⟩, ⟨by repeat (first | (with_reducible first | exact HB.out | apply below_alloc | apply pw_below_drewN | apply below_drew1) | exact HB.out)⟩⟩
             ·replace c34 := Bool.eq_false_iff.mpr c34
              subst c34
              have H1 : (some true) = some r := by rw [if_neg (show ¬ (false = true) by decide)] at H; exact H
              clear H
              have H := H1
              clear H1
              obtain rfl := Option.some.inj H
              obtain ⟨Ao37, co37, eo37⟩ := Kd.R_slice HO_3.out
              subst eo37
              have p448 : 0 ≤ (x11_2 : Int) := of_decide_eq_true (by first | (with_reducible assumption) | assumption)
              have q448 : x11_2 < (t434.length : Int) := of_decide_eq_true (by first | (with_reducible assumption) | assumption)
              obtain ⟨ad448, e448, hx448_0⟩ := Kd.at_bool (Kd.R_reads' HO_3.out).2.2 x11_2 p448 q448
              (try rw [← Nbq30.out] at hx448_0)
              (try rw [← Nbq33.out] at hx448_0)
              cases e448
              replace p448 := eq_true p448
              replace q448 := eq_true q448
              obtain ⟨Ao38, co38, eo38⟩ := Kd.R_slice HO_5.out
              subst eo38
              have p449 : 0 ≤ (x11_2 : Int) := of_decide_eq_true (by first | (with_reducible assumption) | assumption)
              have q449 : x11_2 < (x5_1.length : Int) := of_decide_eq_true (by first | (with_reducible assumption) | assumption)
              obtain ⟨ad449, e449, hx449_0⟩ := Kd.at_bool (Kd.R_reads' HO_5.out).2.2 x11_2 p449 q449
              (try rw [← Nbq30.out] at hx449_0)
              (try rw [← Nbq33.out] at hx449_0)
              cases e449
              replace p449 := eq_true p449
              replace q449 := eq_true q449
              go_wp2
              go_ret
              exact ⟨by first | rfl | (simp [errW_none, errW_some] <;> rfl) | (simp [*, errW_none, errW_some] <;> rfl), by repeat (first | (with_reducible first | exact HB.out | apply below_alloc | apply pw_below_drewN | apply below_drew1) | exact HB.out)⟩
            ·rw [if_neg c32] at H
             exact absurd H (by simp)
           ·replace c31 := Bool.eq_false_iff.mpr c31
            subst c31
            have H1 : (pianolaref10_back.l3 k2 l0 t434 x5_1 (wrap64 (x11_2 + 1))) = some r := by rw [if_neg (show ¬ (false = true) by decide)] at H; exact H
            clear H
            have H := H1
            clear H1
            have H' := Aside0.mk H
            clear H
            obtain ⟨Ao39, co39, eo39⟩ := Kd.R_slice HO_3.out
            subst eo39
            have p448 : 0 ≤ (x11_2 : Int) := of_decide_eq_true (by first | (with_reducible assumption) | assumption)
            have q448 : x11_2 < (t434.length : Int) := of_decide_eq_true (by first | (with_reducible assumption) | assumption)
            obtain ⟨ad448, e448, hx448_0⟩ := Kd.at_bool (Kd.R_reads' HO_3.out).2.2 x11_2 p448 q448
            (try rw [← Nbq30.out] at hx448_0)
            cases e448
            replace p448 := eq_true p448
            replace q448 := eq_true q448
            go_wp2
            go_roundg k2
            case measure => have := HK1.out; have := HK2.out; omega
            case rel => exact ⟨(wrap64 (x11_2 + 1)), (by first | rfl | (simp; done) | (simp [*]; done)), H', ⟨by have := HK1.out; have := HK2.out; omega⟩, ⟨by (with_reducible repeat (first | apply Kd.R_alloc | apply Kd.R_drewN | apply Kd.R_drew)); exact HO_3.out⟩, ⟨by (with_reducible repeat (first | apply Kd.R_alloc | apply Kd.R_drewN | apply Kd.R_drew)); exact HO_5.out⟩, ⟨by repeat (first | (with_reducible first | exact HB.out | apply below_alloc | apply pw_below_drewN | apply below_drew1) | exact HB.out)⟩⟩
          ·rw [if_neg c29] at H
           exact absurd H (by simp)
         ·rw [if_neg c28] at H
          exact absurd H (by simp)
        ·rw [if_neg c27] at H
         have c27b0 : decide (x11_2 < (l0.length : Int)) = false := decide_eq_false c27
         clear c27
         obtain rfl := Option.some.inj H
         go_wp2
         go_ret
         exact ⟨by first | rfl | (simp [errW_none, errW_some] <;> rfl) | (simp [*, errW_none, errW_some] <;> rfl), by repeat (first | (with_reducible first | exact HB.out | apply below_alloc | apply pw_below_drewN | apply below_drew1) | exact HB.out)⟩
  ·rw [if_neg c4] at H
   exact absurd H (by simp)
 ·rw [if_neg c3] at H
  exact absurd H (by simp)

end Go.Proofs.Ytpfbfnbffglbkaa.P
