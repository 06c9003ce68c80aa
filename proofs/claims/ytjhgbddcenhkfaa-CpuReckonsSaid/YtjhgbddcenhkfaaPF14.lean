/- Ytjhgbddcenhkfaa: what Go functions come to, and that they do: walks, printed by a program of this session or typed by hand; no statement of the seat stands here. -/
import Derived.Test.YtjhgbddcenhkfaaP0
namespace Go.Proofs.Ytjhgbddcenhkfaa.P
open Go.RowKit Go.Proofs.YtjhgbddcenhkfaaW.PrintWords Go.Proofs.YtjhgbddcenhkfaaW.PrintLast Go.Proofs.YtjhgbddcenhkfaaW.PrintMore
attribute [local go_sem] max2_int min2_int max_two min_two max_three min_three max_four min_four   -- for this text's walks alone
set_option linter.unusedVariables false
set_option linter.unusedSimpArgs false

/-! ### cpu_Holds: function 14 -/
def cpu_Holds.j0 : Nat → Int → Bool → Bool → Bool → Bool → Bool → Option (Bool)
  | 0, _, _, _, _, _, _ => none
  | k + 1, x0, x11, x104000, x104001, x104002, x104003 => if x11 = true then (some false) else (if (wrap64 (Int.tdiv x0 2)) = 0 then (if (Int.tmod x0 2) = 1 then (some (x104001 != (decide (x0 < 14)))) else (some (x104001 != false))) else (if (wrap64 (Int.tdiv x0 2)) = 1 then (if (Int.tmod x0 2) = 1 then (some (x104002 != (decide (x0 < 14)))) else (some (x104002 != false))) else (if (wrap64 (Int.tdiv x0 2)) = 2 then (if (Int.tmod x0 2) = 1 then (some (x104000 != (decide (x0 < 14)))) else (some (x104000 != false))) else (if (wrap64 (Int.tdiv x0 2)) = 3 then (if (Int.tmod x0 2) = 1 then (some (x104003 != (decide (x0 < 14)))) else (some (x104003 != false))) else (if (wrap64 (Int.tdiv x0 2)) = 4 then (if x104002 = true then (if (Int.tmod x0 2) = 1 then (some ((!x104001) != (decide (x0 < 14)))) else (some ((!x104001) != false))) else (if (Int.tmod x0 2) = 1 then (some (false != (decide (x0 < 14)))) else (some (false != false)))) else (if (wrap64 (Int.tdiv x0 2)) = 5 then (if (Int.tmod x0 2) = 1 then (some ((x104000 == x104003) != (decide (x0 < 14)))) else (some ((x104000 == x104003) != false))) else (if (wrap64 (Int.tdiv x0 2)) = 6 then (if (x104000 == x104003) = true then (if (Int.tmod x0 2) = 1 then (some ((!x104001) != (decide (x0 < 14)))) else (some ((!x104001) != false))) else (if (Int.tmod x0 2) = 1 then (some (false != (decide (x0 < 14)))) else (some (false != false)))) else (if (Int.tmod x0 2) = 1 then (some (true != (decide (x0 < 14)))) else (some (true != false))))))))))
def cpu_Holds.f (k : Nat) (a0 : Int) (a1_0 : Bool) (a1_1 : Bool) (a1_2 : Bool) (a1_3 : Bool) : Option (Bool) := if a0 < 0 then (cpu_Holds.j0 k a0 true a1_0 a1_1 a1_2 a1_3) else (cpu_Holds.j0 k a0 (decide (a0 > 15)) a1_0 a1_1 a1_2 a1_3)
theorem cpu_Holds.mono_l : ∀ k, (∀ y0 y1 y2 y3 y4 y5, LeO (cpu_Holds.j0 k y0 y1 y2 y3 y4 y5) (cpu_Holds.j0 (k + 1) y0 y1 y2 y3 y4 y5))
  | 0 => fun _ _ _ _ _ _ r h => by simp [cpu_Holds.j0] at h
  | k + 1 => by
    have ih0 := cpu_Holds.mono_l k
    · intro y0 y1 y2 y3 y4 y5
      unfold cpu_Holds.j0
      repeat' first
      | (with_reducible exact ih0 _ _ _ _ _ _)
      | (with_reducible exact LeO.refl _)
      | (with_reducible exact LeO.none _)
      | (with_reducible refine LeO.ite ?_ ?_)
      | (with_reducible refine LeO.bind ?_ (fun _ => ?_))
      | exact ih0 _ _ _ _ _ _
      | exact LeO.none _
      | refine LeO.ite ?_ ?_
      | refine LeO.bind ?_ (fun _ => ?_)
theorem cpu_Holds.mono : ∀ a0 a1 a2 a3 a4 k, LeO (cpu_Holds.f k a0 a1 a2 a3 a4) (cpu_Holds.f (k + 1) a0 a1 a2 a3 a4) := by
  intro a0 a1 a2 a3 a4 k
  have ih0 := cpu_Holds.mono_l k
  unfold cpu_Holds.f
  repeat' first
      | (with_reducible exact ih0 _ _ _ _ _ _)
      | (with_reducible exact LeO.refl _)
      | (with_reducible exact LeO.none _)
      | (with_reducible refine LeO.ite ?_ ?_)
      | (with_reducible refine LeO.bind ?_ (fun _ => ?_))
      | exact ih0 _ _ _ _ _ _
      | exact LeO.none _
      | refine LeO.ite ?_ ?_
      | refine LeO.bind ?_ (fun _ => ?_)
set_option maxHeartbeats 8000000 in
set_option maxRecDepth 100000 in
theorem cpu_Holds.calls (k : Nat) (a0 : Int) (a1_0 : Bool) (a1_1 : Bool) (a1_2 : Bool) (a1_3 : Bool) (r : Bool) (w : World) (h : cpu_Holds.f k a0 a1_0 a1_1 a1_2 a1_3 = some r) :
    Calls Try.prog 14 #[.int .i64 a0, .agg #[.bool a1_0, .bool a1_1, .bool a1_2, .bool a1_3]] w fun e w' => e = .returned (.bool r) ∧ Below w.heap.size w w' := by
  have hu23 := Try.underlying23
  have HB := Aside0.mk (Below.refl w.heap.size w)
  have H : (if a0 < 0 then (cpu_Holds.j0 k a0 true a1_0 a1_1 a1_2 a1_3) else (cpu_Holds.j0 k a0 (decide (a0 > 15)) a1_0 a1_1 a1_2 a1_3)) = some r := h
  clear h
  have HC3 := Aside0.mk H
  clear H
  go_enter Try.func14, Try.ntmps14
  go_upto_region 1 with (first | ((with_reducible refine gate_dst (N := 3) rfl ?_); refine box_event ?hg (N := 3) ?hd (cs := #[.bool a1_0, .bool a1_1, .bool a1_2, .bool a1_3]) (t := 23) ?hr ?_; (case hd => rfl); (case hg => rfl); (case hr => first | (go_simp; done) | (go_simp; rfl)); intro gb103 hg w4 hbox hb; have n0_ := Aside0.mk (below_step (by repeat (first | (with_reducible first | exact HB.out | apply below_alloc | apply pw_below_drewN | apply below_drew1) | exact HB.out)) hb); have n1_ := Aside0.mk (hbox); have n2_ := Aside0.mk ((by rw [hg]; exact (below_size (by repeat (first | (with_reducible first | exact HB.out | apply below_alloc | apply pw_below_drewN | apply below_drew1) | exact HB.out))) : w.heap.size ≤ gb103)); have n3_ := Aside0.mk ((by rw [hg]; exact (below_size (by repeat (first | (with_reducible first | exact HB.out | apply below_alloc | apply pw_below_drewN | apply below_drew1) | exact HB.out))) : w.heap.size ≤ gb103)); clear HB; have HB := n0_; have BK103 := n1_; have GW103 := n2_; have GE103 := n3_; clear n0_ n1_ n2_ n3_; clear hb hbox hg))
  (try simp only [Act.put, List.setIfInBounds_toArray, List.set_cons_zero, List.set_cons_succ])
  go_cut [11] (fun v11 wc => ∃ (kq : Nat) (x11_2 : Bool), v11 = .bool x11_2 ∧ Aside0 (cpu_Holds.j0 kq a0 x11_2 a1_0 a1_1 a1_2 a1_3 = some r) ∧ Aside0 (kq ≤ k) ∧ Aside0 (wc.heap[gb103]? = some (.cells #[.bool a1_0, .bool a1_1, .bool a1_2, .bool a1_3] 23 (0, 0))) ∧ Aside0 (Below w.heap.size w wc))
  case first =>
    have H := HC3.out
    clear HC3
    by_cases c5 : a0 < 0
    · rw [if_pos c5] at H
      have c5b0 : decide (a0 < 0) = true := decide_eq_true c5
      clear c5
      (first | rw [c5b0] | (simp only [i64_w, i32_w]; rw [c5b0]) | skip)
      have H' := Aside0.mk H
      clear H
      go_wp2
      go_meet
      case rel => exact ⟨_, (true), (by first | rfl | (simp; done) | (simp [*]; done)), H', ⟨by first | omega | exact Nat.le_refl _⟩, ⟨by (with_reducible repeat (first | refine blk_drewN ?_ _ | refine blk_drew ?_ | refine blk_alloc ?_ _)); exact BK103.out⟩, ⟨by repeat (first | (with_reducible first | exact HB.out | apply below_alloc | apply pw_below_drewN | apply below_drew1 | refine below_set ?_ GE103.out) | exact HB.out)⟩⟩
    · rw [if_neg c5] at H
      have c5b0 : decide (a0 < 0) = false := decide_eq_false c5
      clear c5
      (first | rw [c5b0] | (simp only [i64_w, i32_w]; rw [c5b0]) | skip)
      have H' := Aside0.mk H
      clear H
      go_wp2
      go_meet
      case rel => exact ⟨_, (decide (a0 > 15)), (by first | rfl | (simp; done) | (simp [*]; done)), H', ⟨by first | omega | exact Nat.le_refl _⟩, ⟨by (with_reducible repeat (first | refine blk_drewN ?_ _ | refine blk_drew ?_ | refine blk_alloc ?_ _)); exact BK103.out⟩, ⟨by repeat (first | (with_reducible first | exact HB.out | apply below_alloc | apply pw_below_drewN | apply below_drew1 | refine below_set ?_ GE103.out) | exact HB.out)⟩⟩
  case rest =>
    clear HC3
    try clear c1
    try clear p2
    try clear c5
    try clear c5b0
    obtain ⟨kq, x11_2, rfl, HA, HJ2, BK103, HB⟩ := hcut
    cases kq with
    | zero => exact absurd HA.out (by simp [cpu_Holds.j0])
    | succ kj2 =>
      have H := HA.out
      clear HA
      simp only [cpu_Holds.j0] at H
      by_cases c6 : x11_2 = true
      · subst c6
        have H1 : (some false) = some r := by rw [if_pos rfl] at H; exact H
        clear H
        have H := H1
        clear H1
        obtain rfl := Option.some.inj H
        go_wp2
        go_ret
        exact ⟨by first | rfl | (cases a1_1 <;> rfl) | (cases a1_1 <;> simp <;> rfl) | (cases a1_1 <;> simp) | (simp [errW_none, errW_some] <;> rfl) | (simp [*, errW_none, errW_some] <;> rfl), by repeat (first | (with_reducible first | exact HB.out | apply below_alloc | apply pw_below_drewN | apply below_drew1 | refine below_set ?_ GE103.out) | exact HB.out)⟩
      · replace c6 := Bool.eq_false_iff.mpr c6
        subst c6
        have H1 : (if (wrap64 (Int.tdiv a0 2)) = 0 then (if (Int.tmod a0 2) = 1 then (some (a1_1 != (decide (a0 < 14)))) else (some (a1_1 != false))) else (if (wrap64 (Int.tdiv a0 2)) = 1 then (if (Int.tmod a0 2) = 1 then (some (a1_2 != (decide (a0 < 14)))) else (some (a1_2 != false))) else (if (wrap64 (Int.tdiv a0 2)) = 2 then (if (Int.tmod a0 2) = 1 then (some (a1_0 != (decide (a0 < 14)))) else (some (a1_0 != false))) else (if (wrap64 (Int.tdiv a0 2)) = 3 then (if (Int.tmod a0 2) = 1 then (some (a1_3 != (decide (a0 < 14)))) else (some (a1_3 != false))) else (if (wrap64 (Int.tdiv a0 2)) = 4 then (if a1_2 = true then (if (Int.tmod a0 2) = 1 then (some ((!a1_1) != (decide (a0 < 14)))) else (some ((!a1_1) != false))) else (if (Int.tmod a0 2) = 1 then (some (false != (decide (a0 < 14)))) else (some (false != false)))) else (if (wrap64 (Int.tdiv a0 2)) = 5 then (if (Int.tmod a0 2) = 1 then (some ((a1_0 == a1_3) != (decide (a0 < 14)))) else (some ((a1_0 == a1_3) != false))) else (if (wrap64 (Int.tdiv a0 2)) = 6 then (if (a1_0 == a1_3) = true then (if (Int.tmod a0 2) = 1 then (some ((!a1_1) != (decide (a0 < 14)))) else (some ((!a1_1) != false))) else (if (Int.tmod a0 2) = 1 then (some (false != (decide (a0 < 14)))) else (some (false != false)))) else (if (Int.tmod a0 2) = 1 then (some (true != (decide (a0 < 14)))) else (some (true != false)))))))))) = some r := by rw [if_neg (show ¬ (false = true) by decide)] at H; exact H
        clear H
        have H := H1
        clear H1
        by_cases c7 : (wrap64 (Int.tdiv a0 2)) = 0
        · rw [if_pos c7] at H
          have c7b0 : ((wrap64 (Int.tdiv a0 2)) == 0) = true := beq_iff_eq.mpr c7
          have c7b1 : ((wrap64 (Int.tdiv a0 2)) != 0) = false := bne_eq_false_iff_eq.mpr c7
          clear c7
          by_cases c8 : (Int.tmod a0 2) = 1
          · rw [if_pos c8] at H
            have c8b0 : ((Int.tmod a0 2) == 1) = true := beq_iff_eq.mpr c8
            have c8b1 : ((Int.tmod a0 2) != 1) = false := bne_eq_false_iff_eq.mpr c8
            clear c8
            obtain rfl := Option.some.inj H
            have hcz9_0 : wc.cell? ⟨gb103, 0, none⟩ = some (.bool a1_0) := (blk_cell BK103.out 0).trans rfl
            have hcz9_1 : wc.cell? ⟨gb103, 1, none⟩ = some (.bool a1_1) := (blk_cell BK103.out 1).trans rfl
            have hcz9_2 : wc.cell? ⟨gb103, 2, none⟩ = some (.bool a1_2) := (blk_cell BK103.out 2).trans rfl
            have hcz9_3 : wc.cell? ⟨gb103, 3, none⟩ = some (.bool a1_3) := (blk_cell BK103.out 3).trans rfl
            have hfz9_0 := blk_frozen BK103.out 0
            have hfz9_1 := blk_frozen BK103.out 1
            have hfz9_2 := blk_frozen BK103.out 2
            have hfz9_3 := blk_frozen BK103.out 3
            go_wp2
            go_ret
            exact ⟨by first | rfl | (cases a1_1 <;> rfl) | (cases a1_1 <;> simp <;> rfl) | (cases a1_1 <;> simp) | (simp [errW_none, errW_some] <;> rfl) | (simp [*, errW_none, errW_some] <;> rfl), by repeat (first | (with_reducible first | exact HB.out | apply below_alloc | apply pw_below_drewN | apply below_drew1 | refine below_set ?_ GE103.out) | exact HB.out)⟩
          · rw [if_neg c8] at H
            have c8b0 : ((Int.tmod a0 2) == 1) = false := beq_eq_false_iff_ne.mpr c8
            have c8b1 : ((Int.tmod a0 2) != 1) = true := bne_iff_ne.mpr c8
            obtain rfl := Option.some.inj H
            have hcz10_0 : wc.cell? ⟨gb103, 0, none⟩ = some (.bool a1_0) := (blk_cell BK103.out 0).trans rfl
            have hcz10_1 : wc.cell? ⟨gb103, 1, none⟩ = some (.bool a1_1) := (blk_cell BK103.out 1).trans rfl
            have hcz10_2 : wc.cell? ⟨gb103, 2, none⟩ = some (.bool a1_2) := (blk_cell BK103.out 2).trans rfl
            have hcz10_3 : wc.cell? ⟨gb103, 3, none⟩ = some (.bool a1_3) := (blk_cell BK103.out 3).trans rfl
            have hfz10_0 := blk_frozen BK103.out 0
            have hfz10_1 := blk_frozen BK103.out 1
            have hfz10_2 := blk_frozen BK103.out 2
            have hfz10_3 := blk_frozen BK103.out 3
            go_wp2
            go_ret
            exact ⟨by first | rfl | (cases a1_1 <;> rfl) | (cases a1_1 <;> simp <;> rfl) | (cases a1_1 <;> simp) | (simp [errW_none, errW_some] <;> rfl) | (simp [*, errW_none, errW_some] <;> rfl), by repeat (first | (with_reducible first | exact HB.out | apply below_alloc | apply pw_below_drewN | apply below_drew1 | refine below_set ?_ GE103.out) | exact HB.out)⟩
        · rw [if_neg c7] at H
          have c7b0 : ((wrap64 (Int.tdiv a0 2)) == 0) = false := beq_eq_false_iff_ne.mpr c7
          have c7b1 : ((wrap64 (Int.tdiv a0 2)) != 0) = true := bne_iff_ne.mpr c7
          by_cases c11 : (wrap64 (Int.tdiv a0 2)) = 1
          · rw [if_pos c11] at H
            have c11b0 : ((wrap64 (Int.tdiv a0 2)) == 1) = true := beq_iff_eq.mpr c11
            have c11b1 : ((wrap64 (Int.tdiv a0 2)) != 1) = false := bne_eq_false_iff_eq.mpr c11
            clear c11
            by_cases c12 : (Int.tmod a0 2) = 1
            · rw [if_pos c12] at H
              have c12b0 : ((Int.tmod a0 2) == 1) = true := beq_iff_eq.mpr c12
              have c12b1 : ((Int.tmod a0 2) != 1) = false := bne_eq_false_iff_eq.mpr c12
              clear c12
              obtain rfl := Option.some.inj H
              have hcz13_0 : wc.cell? ⟨gb103, 0, none⟩ = some (.bool a1_0) := (blk_cell BK103.out 0).trans rfl
              have hcz13_1 : wc.cell? ⟨gb103, 1, none⟩ = some (.bool a1_1) := (blk_cell BK103.out 1).trans rfl
              have hcz13_2 : wc.cell? ⟨gb103, 2, none⟩ = some (.bool a1_2) := (blk_cell BK103.out 2).trans rfl
              have hcz13_3 : wc.cell? ⟨gb103, 3, none⟩ = some (.bool a1_3) := (blk_cell BK103.out 3).trans rfl
              have hfz13_0 := blk_frozen BK103.out 0
              have hfz13_1 := blk_frozen BK103.out 1
              have hfz13_2 := blk_frozen BK103.out 2
              have hfz13_3 := blk_frozen BK103.out 3
              go_wp2
              go_ret
              exact ⟨by first | rfl | (cases a1_1 <;> rfl) | (cases a1_1 <;> simp <;> rfl) | (cases a1_1 <;> simp) | (simp [errW_none, errW_some] <;> rfl) | (simp [*, errW_none, errW_some] <;> rfl), by repeat (first | (with_reducible first | exact HB.out | apply below_alloc | apply pw_below_drewN | apply below_drew1 | refine below_set ?_ GE103.out) | exact HB.out)⟩
            · rw [if_neg c12] at H
              have c12b0 : ((Int.tmod a0 2) == 1) = false := beq_eq_false_iff_ne.mpr c12
              have c12b1 : ((Int.tmod a0 2) != 1) = true := bne_iff_ne.mpr c12
              obtain rfl := Option.some.inj H
              have hcz14_0 : wc.cell? ⟨gb103, 0, none⟩ = some (.bool a1_0) := (blk_cell BK103.out 0).trans rfl
              have hcz14_1 : wc.cell? ⟨gb103, 1, none⟩ = some (.bool a1_1) := (blk_cell BK103.out 1).trans rfl
              have hcz14_2 : wc.cell? ⟨gb103, 2, none⟩ = some (.bool a1_2) := (blk_cell BK103.out 2).trans rfl
              have hcz14_3 : wc.cell? ⟨gb103, 3, none⟩ = some (.bool a1_3) := (blk_cell BK103.out 3).trans rfl
              have hfz14_0 := blk_frozen BK103.out 0
              have hfz14_1 := blk_frozen BK103.out 1
              have hfz14_2 := blk_frozen BK103.out 2
              have hfz14_3 := blk_frozen BK103.out 3
              go_wp2
              go_ret
              exact ⟨by first | rfl | (cases a1_1 <;> rfl) | (cases a1_1 <;> simp <;> rfl) | (cases a1_1 <;> simp) | (simp [errW_none, errW_some] <;> rfl) | (simp [*, errW_none, errW_some] <;> rfl), by repeat (first | (with_reducible first | exact HB.out | apply below_alloc | apply pw_below_drewN | apply below_drew1 | refine below_set ?_ GE103.out) | exact HB.out)⟩
          · rw [if_neg c11] at H
            have c11b0 : ((wrap64 (Int.tdiv a0 2)) == 1) = false := beq_eq_false_iff_ne.mpr c11
            have c11b1 : ((wrap64 (Int.tdiv a0 2)) != 1) = true := bne_iff_ne.mpr c11
            by_cases c15 : (wrap64 (Int.tdiv a0 2)) = 2
            · rw [if_pos c15] at H
              have c15b0 : ((wrap64 (Int.tdiv a0 2)) == 2) = true := beq_iff_eq.mpr c15
              have c15b1 : ((wrap64 (Int.tdiv a0 2)) != 2) = false := bne_eq_false_iff_eq.mpr c15
              clear c15
              by_cases c16 : (Int.tmod a0 2) = 1
              · rw [if_pos c16] at H
                have c16b0 : ((Int.tmod a0 2) == 1) = true := beq_iff_eq.mpr c16
                have c16b1 : ((Int.tmod a0 2) != 1) = false := bne_eq_false_iff_eq.mpr c16
                clear c16
                obtain rfl := Option.some.inj H
                have hcz17_0 : wc.cell? ⟨gb103, 0, none⟩ = some (.bool a1_0) := (blk_cell BK103.out 0).trans rfl
                have hcz17_1 : wc.cell? ⟨gb103, 1, none⟩ = some (.bool a1_1) := (blk_cell BK103.out 1).trans rfl
                have hcz17_2 : wc.cell? ⟨gb103, 2, none⟩ = some (.bool a1_2) := (blk_cell BK103.out 2).trans rfl
                have hcz17_3 : wc.cell? ⟨gb103, 3, none⟩ = some (.bool a1_3) := (blk_cell BK103.out 3).trans rfl
                have hfz17_0 := blk_frozen BK103.out 0
                have hfz17_1 := blk_frozen BK103.out 1
                have hfz17_2 := blk_frozen BK103.out 2
                have hfz17_3 := blk_frozen BK103.out 3
                go_wp2
                go_ret
                exact ⟨by first | rfl | (cases a1_1 <;> rfl) | (cases a1_1 <;> simp <;> rfl) | (cases a1_1 <;> simp) | (simp [errW_none, errW_some] <;> rfl) | (simp [*, errW_none, errW_some] <;> rfl), by repeat (first | (with_reducible first | exact HB.out | apply below_alloc | apply pw_below_drewN | apply below_drew1 | refine below_set ?_ GE103.out) | exact HB.out)⟩
              · rw [if_neg c16] at H
                have c16b0 : ((Int.tmod a0 2) == 1) = false := beq_eq_false_iff_ne.mpr c16
                have c16b1 : ((Int.tmod a0 2) != 1) = true := bne_iff_ne.mpr c16
                obtain rfl := Option.some.inj H
                have hcz18_0 : wc.cell? ⟨gb103, 0, none⟩ = some (.bool a1_0) := (blk_cell BK103.out 0).trans rfl
                have hcz18_1 : wc.cell? ⟨gb103, 1, none⟩ = some (.bool a1_1) := (blk_cell BK103.out 1).trans rfl
                have hcz18_2 : wc.cell? ⟨gb103, 2, none⟩ = some (.bool a1_2) := (blk_cell BK103.out 2).trans rfl
                have hcz18_3 : wc.cell? ⟨gb103, 3, none⟩ = some (.bool a1_3) := (blk_cell BK103.out 3).trans rfl
                have hfz18_0 := blk_frozen BK103.out 0
                have hfz18_1 := blk_frozen BK103.out 1
                have hfz18_2 := blk_frozen BK103.out 2
                have hfz18_3 := blk_frozen BK103.out 3
                go_wp2
                go_ret
                exact ⟨by first | rfl | (cases a1_1 <;> rfl) | (cases a1_1 <;> simp <;> rfl) | (cases a1_1 <;> simp) | (simp [errW_none, errW_some] <;> rfl) | (simp [*, errW_none, errW_some] <;> rfl), by repeat (first | (with_reducible first | exact HB.out | apply below_alloc | apply pw_below_drewN | apply below_drew1 | refine below_set ?_ GE103.out) | exact HB.out)⟩
            · rw [if_neg c15] at H
              have c15b0 : ((wrap64 (Int.tdiv a0 2)) == 2) = false := beq_eq_false_iff_ne.mpr c15
              have c15b1 : ((wrap64 (Int.tdiv a0 2)) != 2) = true := bne_iff_ne.mpr c15
              by_cases c19 : (wrap64 (Int.tdiv a0 2)) = 3
              · rw [if_pos c19] at H
                have c19b0 : ((wrap64 (Int.tdiv a0 2)) == 3) = true := beq_iff_eq.mpr c19
                have c19b1 : ((wrap64 (Int.tdiv a0 2)) != 3) = false := bne_eq_false_iff_eq.mpr c19
                clear c19
                by_cases c20 : (Int.tmod a0 2) = 1
                · rw [if_pos c20] at H
                  have c20b0 : ((Int.tmod a0 2) == 1) = true := beq_iff_eq.mpr c20
                  have c20b1 : ((Int.tmod a0 2) != 1) = false := bne_eq_false_iff_eq.mpr c20
                  clear c20
                  obtain rfl := Option.some.inj H
                  have hcz21_0 : wc.cell? ⟨gb103, 0, none⟩ = some (.bool a1_0) := (blk_cell BK103.out 0).trans rfl
                  have hcz21_1 : wc.cell? ⟨gb103, 1, none⟩ = some (.bool a1_1) := (blk_cell BK103.out 1).trans rfl
                  have hcz21_2 : wc.cell? ⟨gb103, 2, none⟩ = some (.bool a1_2) := (blk_cell BK103.out 2).trans rfl
                  have hcz21_3 : wc.cell? ⟨gb103, 3, none⟩ = some (.bool a1_3) := (blk_cell BK103.out 3).trans rfl
                  have hfz21_0 := blk_frozen BK103.out 0
                  have hfz21_1 := blk_frozen BK103.out 1
                  have hfz21_2 := blk_frozen BK103.out 2
                  have hfz21_3 := blk_frozen BK103.out 3
                  go_wp2
                  go_ret
                  exact ⟨by first | rfl | (cases a1_1 <;> rfl) | (cases a1_1 <;> simp <;> rfl) | (cases a1_1 <;> simp) | (simp [errW_none, errW_some] <;> rfl) | (simp [*, errW_none, errW_some] <;> rfl), by repeat (first | (with_reducible first | exact HB.out | apply below_alloc | apply pw_below_drewN | apply below_drew1 | refine below_set ?_ GE103.out) | exact HB.out)⟩
                · rw [if_neg c20] at H
                  have c20b0 : ((Int.tmod a0 2) == 1) = false := beq_eq_false_iff_ne.mpr c20
                  have c20b1 : ((Int.tmod a0 2) != 1) = true := bne_iff_ne.mpr c20
                  obtain rfl := Option.some.inj H
                  have hcz22_0 : wc.cell? ⟨gb103, 0, none⟩ = some (.bool a1_0) := (blk_cell BK103.out 0).trans rfl
                  have hcz22_1 : wc.cell? ⟨gb103, 1, none⟩ = some (.bool a1_1) := (blk_cell BK103.out 1).trans rfl
                  have hcz22_2 : wc.cell? ⟨gb103, 2, none⟩ = some (.bool a1_2) := (blk_cell BK103.out 2).trans rfl
                  have hcz22_3 : wc.cell? ⟨gb103, 3, none⟩ = some (.bool a1_3) := (blk_cell BK103.out 3).trans rfl
                  have hfz22_0 := blk_frozen BK103.out 0
                  have hfz22_1 := blk_frozen BK103.out 1
                  have hfz22_2 := blk_frozen BK103.out 2
                  have hfz22_3 := blk_frozen BK103.out 3
                  go_wp2
                  go_ret
                  exact ⟨by first | rfl | (cases a1_1 <;> rfl) | (cases a1_1 <;> simp <;> rfl) | (cases a1_1 <;> simp) | (simp [errW_none, errW_some] <;> rfl) | (simp [*, errW_none, errW_some] <;> rfl), by repeat (first | (with_reducible first | exact HB.out | apply below_alloc | apply pw_below_drewN | apply below_drew1 | refine below_set ?_ GE103.out) | exact HB.out)⟩
              · rw [if_neg c19] at H
                have c19b0 : ((wrap64 (Int.tdiv a0 2)) == 3) = false := beq_eq_false_iff_ne.mpr c19
                have c19b1 : ((wrap64 (Int.tdiv a0 2)) != 3) = true := bne_iff_ne.mpr c19
                by_cases c23 : (wrap64 (Int.tdiv a0 2)) = 4
                · rw [if_pos c23] at H
                  have c23b0 : ((wrap64 (Int.tdiv a0 2)) == 4) = true := beq_iff_eq.mpr c23
                  have c23b1 : ((wrap64 (Int.tdiv a0 2)) != 4) = false := bne_eq_false_iff_eq.mpr c23
                  clear c23
                  by_cases c24 : a1_2 = true
                  · subst c24
                    have H1 : (if (Int.tmod a0 2) = 1 then (some ((!a1_1) != (decide (a0 < 14)))) else (some ((!a1_1) != false))) = some r := by rw [if_pos rfl] at H; exact H
                    clear H
                    have H := H1
                    clear H1
                    by_cases c25 : (Int.tmod a0 2) = 1
                    · rw [if_pos c25] at H
                      have c25b0 : ((Int.tmod a0 2) == 1) = true := beq_iff_eq.mpr c25
                      have c25b1 : ((Int.tmod a0 2) != 1) = false := bne_eq_false_iff_eq.mpr c25
                      clear c25
                      obtain rfl := Option.some.inj H
                      have hcz26_0 : wc.cell? ⟨gb103, 0, none⟩ = some (.bool a1_0) := (blk_cell BK103.out 0).trans rfl
                      have hcz26_1 : wc.cell? ⟨gb103, 1, none⟩ = some (.bool a1_1) := (blk_cell BK103.out 1).trans rfl
                      have hcz26_2 : wc.cell? ⟨gb103, 2, none⟩ = some (.bool true) := (blk_cell BK103.out 2).trans rfl
                      have hcz26_3 : wc.cell? ⟨gb103, 3, none⟩ = some (.bool a1_3) := (blk_cell BK103.out 3).trans rfl
                      have hfz26_0 := blk_frozen BK103.out 0
                      have hfz26_1 := blk_frozen BK103.out 1
                      have hfz26_2 := blk_frozen BK103.out 2
                      have hfz26_3 := blk_frozen BK103.out 3
                      go_wp2
                      go_ret
                      exact ⟨by first | rfl | (cases a1_1 <;> rfl) | (cases a1_1 <;> simp <;> rfl) | (cases a1_1 <;> simp) | (simp [errW_none, errW_some] <;> rfl) | (simp [*, errW_none, errW_some] <;> rfl), by repeat (first | (with_reducible first | exact HB.out | apply below_alloc | apply pw_below_drewN | apply below_drew1 | refine below_set ?_ GE103.out) | exact HB.out)⟩
                    · rw [if_neg c25] at H
                      have c25b0 : ((Int.tmod a0 2) == 1) = false := beq_eq_false_iff_ne.mpr c25
                      have c25b1 : ((Int.tmod a0 2) != 1) = true := bne_iff_ne.mpr c25
                      obtain rfl := Option.some.inj H
                      have hcz27_0 : wc.cell? ⟨gb103, 0, none⟩ = some (.bool a1_0) := (blk_cell BK103.out 0).trans rfl
                      have hcz27_1 : wc.cell? ⟨gb103, 1, none⟩ = some (.bool a1_1) := (blk_cell BK103.out 1).trans rfl
                      have hcz27_2 : wc.cell? ⟨gb103, 2, none⟩ = some (.bool true) := (blk_cell BK103.out 2).trans rfl
                      have hcz27_3 : wc.cell? ⟨gb103, 3, none⟩ = some (.bool a1_3) := (blk_cell BK103.out 3).trans rfl
                      have hfz27_0 := blk_frozen BK103.out 0
                      have hfz27_1 := blk_frozen BK103.out 1
                      have hfz27_2 := blk_frozen BK103.out 2
                      have hfz27_3 := blk_frozen BK103.out 3
                      go_wp2
                      go_ret
                      exact ⟨by first | rfl | (cases a1_1 <;> rfl) | (cases a1_1 <;> simp <;> rfl) | (cases a1_1 <;> simp) | (simp [errW_none, errW_some] <;> rfl) | (simp [*, errW_none, errW_some] <;> rfl), by repeat (first | (with_reducible first | exact HB.out | apply below_alloc | apply pw_below_drewN | apply below_drew1 | refine below_set ?_ GE103.out) | exact HB.out)⟩
                  · replace c24 := Bool.eq_false_iff.mpr c24
                    subst c24
                    have H1 : (if (Int.tmod a0 2) = 1 then (some (false != (decide (a0 < 14)))) else (some (false != false))) = some r := by rw [if_neg (show ¬ (false = true) by decide)] at H; exact H
                    clear H
                    have H := H1
                    clear H1
                    by_cases c28 : (Int.tmod a0 2) = 1
                    · rw [if_pos c28] at H
                      have c28b0 : ((Int.tmod a0 2) == 1) = true := beq_iff_eq.mpr c28
                      have c28b1 : ((Int.tmod a0 2) != 1) = false := bne_eq_false_iff_eq.mpr c28
                      clear c28
                      obtain rfl := Option.some.inj H
                      have hcz29_0 : wc.cell? ⟨gb103, 0, none⟩ = some (.bool a1_0) := (blk_cell BK103.out 0).trans rfl
                      have hcz29_1 : wc.cell? ⟨gb103, 1, none⟩ = some (.bool a1_1) := (blk_cell BK103.out 1).trans rfl
                      have hcz29_2 : wc.cell? ⟨gb103, 2, none⟩ = some (.bool false) := (blk_cell BK103.out 2).trans rfl
                      have hcz29_3 : wc.cell? ⟨gb103, 3, none⟩ = some (.bool a1_3) := (blk_cell BK103.out 3).trans rfl
                      have hfz29_0 := blk_frozen BK103.out 0
                      have hfz29_1 := blk_frozen BK103.out 1
                      have hfz29_2 := blk_frozen BK103.out 2
                      have hfz29_3 := blk_frozen BK103.out 3
                      go_wp2
                      go_ret
                      exact ⟨by first | rfl | (cases a1_1 <;> rfl) | (cases a1_1 <;> simp <;> rfl) | (cases a1_1 <;> simp) | (simp [errW_none, errW_some] <;> rfl) | (simp [*, errW_none, errW_some] <;> rfl), by repeat (first | (with_reducible first | exact HB.out | apply below_alloc | apply pw_below_drewN | apply below_drew1 | refine below_set ?_ GE103.out) | exact HB.out)⟩
                    · rw [if_neg c28] at H
                      have c28b0 : ((Int.tmod a0 2) == 1) = false := beq_eq_false_iff_ne.mpr c28
                      have c28b1 : ((Int.tmod a0 2) != 1) = true := bne_iff_ne.mpr c28
                      obtain rfl := Option.some.inj H
                      have hcz30_0 : wc.cell? ⟨gb103, 0, none⟩ = some (.bool a1_0) := (blk_cell BK103.out 0).trans rfl
                      have hcz30_1 : wc.cell? ⟨gb103, 1, none⟩ = some (.bool a1_1) := (blk_cell BK103.out 1).trans rfl
                      have hcz30_2 : wc.cell? ⟨gb103, 2, none⟩ = some (.bool false) := (blk_cell BK103.out 2).trans rfl
                      have hcz30_3 : wc.cell? ⟨gb103, 3, none⟩ = some (.bool a1_3) := (blk_cell BK103.out 3).trans rfl
                      have hfz30_0 := blk_frozen BK103.out 0
                      have hfz30_1 := blk_frozen BK103.out 1
                      have hfz30_2 := blk_frozen BK103.out 2
                      have hfz30_3 := blk_frozen BK103.out 3
                      go_wp2
                      go_ret
                      exact ⟨by first | rfl | (cases a1_1 <;> rfl) | (cases a1_1 <;> simp <;> rfl) | (cases a1_1 <;> simp) | (simp [errW_none, errW_some] <;> rfl) | (simp [*, errW_none, errW_some] <;> rfl), by repeat (first | (with_reducible first | exact HB.out | apply below_alloc | apply pw_below_drewN | apply below_drew1 | refine below_set ?_ GE103.out) | exact HB.out)⟩
                · rw [if_neg c23] at H
                  have c23b0 : ((wrap64 (Int.tdiv a0 2)) == 4) = false := beq_eq_false_iff_ne.mpr c23
                  have c23b1 : ((wrap64 (Int.tdiv a0 2)) != 4) = true := bne_iff_ne.mpr c23
                  by_cases c31 : (wrap64 (Int.tdiv a0 2)) = 5
                  · rw [if_pos c31] at H
                    have c31b0 : ((wrap64 (Int.tdiv a0 2)) == 5) = true := beq_iff_eq.mpr c31
                    have c31b1 : ((wrap64 (Int.tdiv a0 2)) != 5) = false := bne_eq_false_iff_eq.mpr c31
                    clear c31
                    by_cases c32 : (Int.tmod a0 2) = 1
                    · rw [if_pos c32] at H
                      have c32b0 : ((Int.tmod a0 2) == 1) = true := beq_iff_eq.mpr c32
                      have c32b1 : ((Int.tmod a0 2) != 1) = false := bne_eq_false_iff_eq.mpr c32
                      clear c32
                      obtain rfl := Option.some.inj H
                      have hcz33_0 : wc.cell? ⟨gb103, 0, none⟩ = some (.bool a1_0) := (blk_cell BK103.out 0).trans rfl
                      have hcz33_1 : wc.cell? ⟨gb103, 1, none⟩ = some (.bool a1_1) := (blk_cell BK103.out 1).trans rfl
                      have hcz33_2 : wc.cell? ⟨gb103, 2, none⟩ = some (.bool a1_2) := (blk_cell BK103.out 2).trans rfl
                      have hcz33_3 : wc.cell? ⟨gb103, 3, none⟩ = some (.bool a1_3) := (blk_cell BK103.out 3).trans rfl
                      have hfz33_0 := blk_frozen BK103.out 0
                      have hfz33_1 := blk_frozen BK103.out 1
                      have hfz33_2 := blk_frozen BK103.out 2
                      have hfz33_3 := blk_frozen BK103.out 3
                      go_wp2
                      go_ret
                      exact ⟨by first | rfl | (cases a1_1 <;> rfl) | (cases a1_1 <;> simp <;> rfl) | (cases a1_1 <;> simp) | (simp [errW_none, errW_some] <;> rfl) | (simp [*, errW_none, errW_some] <;> rfl), by repeat (first | (with_reducible first | exact HB.out | apply below_alloc | apply pw_below_drewN | apply below_drew1 | refine below_set ?_ GE103.out) | exact HB.out)⟩
                    · rw [if_neg c32] at H
                      have c32b0 : ((Int.tmod a0 2) == 1) = false := beq_eq_false_iff_ne.mpr c32
                      have c32b1 : ((Int.tmod a0 2) != 1) = true := bne_iff_ne.mpr c32
                      obtain rfl := Option.some.inj H
                      have hcz34_0 : wc.cell? ⟨gb103, 0, none⟩ = some (.bool a1_0) := (blk_cell BK103.out 0).trans rfl
                      have hcz34_1 : wc.cell? ⟨gb103, 1, none⟩ = some (.bool a1_1) := (blk_cell BK103.out 1).trans rfl
                      have hcz34_2 : wc.cell? ⟨gb103, 2, none⟩ = some (.bool a1_2) := (blk_cell BK103.out 2).trans rfl
                      have hcz34_3 : wc.cell? ⟨gb103, 3, none⟩ = some (.bool a1_3) := (blk_cell BK103.out 3).trans rfl
                      have hfz34_0 := blk_frozen BK103.out 0
                      have hfz34_1 := blk_frozen BK103.out 1
                      have hfz34_2 := blk_frozen BK103.out 2
                      have hfz34_3 := blk_frozen BK103.out 3
                      go_wp2
                      go_ret
                      exact ⟨by first | rfl | (cases a1_1 <;> rfl) | (cases a1_1 <;> simp <;> rfl) | (cases a1_1 <;> simp) | (simp [errW_none, errW_some] <;> rfl) | (simp [*, errW_none, errW_some] <;> rfl), by repeat (first | (with_reducible first | exact HB.out | apply below_alloc | apply pw_below_drewN | apply below_drew1 | refine below_set ?_ GE103.out) | exact HB.out)⟩
                  · rw [if_neg c31] at H
                    have c31b0 : ((wrap64 (Int.tdiv a0 2)) == 5) = false := beq_eq_false_iff_ne.mpr c31
                    have c31b1 : ((wrap64 (Int.tdiv a0 2)) != 5) = true := bne_iff_ne.mpr c31
                    by_cases c35 : (wrap64 (Int.tdiv a0 2)) = 6
                    · rw [if_pos c35] at H
                      have c35b0 : ((wrap64 (Int.tdiv a0 2)) == 6) = true := beq_iff_eq.mpr c35
                      have c35b1 : ((wrap64 (Int.tdiv a0 2)) != 6) = false := bne_eq_false_iff_eq.mpr c35
                      clear c35
                      by_cases c36 : (a1_0 == a1_3) = true
                      · rw [if_pos c36] at H
                        have c36b0 : (a1_0 == a1_3) = true := c36
                        (try (have c36b1 : decide (a1_0 = a1_3) = true := by simpa using c36))
                        (try (have c36b2 : (a1_0 == a1_3) = true := by simpa using c36))
                        clear c36
                        by_cases c37 : (Int.tmod a0 2) = 1
                        · rw [if_pos c37] at H
                          have c37b0 : ((Int.tmod a0 2) == 1) = true := beq_iff_eq.mpr c37
                          have c37b1 : ((Int.tmod a0 2) != 1) = false := bne_eq_false_iff_eq.mpr c37
                          clear c37
                          obtain rfl := Option.some.inj H
                          have hcz38_0 : wc.cell? ⟨gb103, 0, none⟩ = some (.bool a1_0) := (blk_cell BK103.out 0).trans rfl
                          have hcz38_1 : wc.cell? ⟨gb103, 1, none⟩ = some (.bool a1_1) := (blk_cell BK103.out 1).trans rfl
                          have hcz38_2 : wc.cell? ⟨gb103, 2, none⟩ = some (.bool a1_2) := (blk_cell BK103.out 2).trans rfl
                          have hcz38_3 : wc.cell? ⟨gb103, 3, none⟩ = some (.bool a1_3) := (blk_cell BK103.out 3).trans rfl
                          have hfz38_0 := blk_frozen BK103.out 0
                          have hfz38_1 := blk_frozen BK103.out 1
                          have hfz38_2 := blk_frozen BK103.out 2
                          have hfz38_3 := blk_frozen BK103.out 3
                          go_wp2
                          go_ret
                          exact ⟨by first | rfl | (cases a1_1 <;> rfl) | (cases a1_1 <;> simp <;> rfl) | (cases a1_1 <;> simp) | (simp [errW_none, errW_some] <;> rfl) | (simp [*, errW_none, errW_some] <;> rfl), by repeat (first | (with_reducible first | exact HB.out | apply below_alloc | apply pw_below_drewN | apply below_drew1 | refine below_set ?_ GE103.out) | exact HB.out)⟩
                        · rw [if_neg c37] at H
                          have c37b0 : ((Int.tmod a0 2) == 1) = false := beq_eq_false_iff_ne.mpr c37
                          have c37b1 : ((Int.tmod a0 2) != 1) = true := bne_iff_ne.mpr c37
                          obtain rfl := Option.some.inj H
                          have hcz39_0 : wc.cell? ⟨gb103, 0, none⟩ = some (.bool a1_0) := (blk_cell BK103.out 0).trans rfl
                          have hcz39_1 : wc.cell? ⟨gb103, 1, none⟩ = some (.bool a1_1) := (blk_cell BK103.out 1).trans rfl
                          have hcz39_2 : wc.cell? ⟨gb103, 2, none⟩ = some (.bool a1_2) := (blk_cell BK103.out 2).trans rfl
                          have hcz39_3 : wc.cell? ⟨gb103, 3, none⟩ = some (.bool a1_3) := (blk_cell BK103.out 3).trans rfl
                          have hfz39_0 := blk_frozen BK103.out 0
                          have hfz39_1 := blk_frozen BK103.out 1
                          have hfz39_2 := blk_frozen BK103.out 2
                          have hfz39_3 := blk_frozen BK103.out 3
                          go_wp2
                          go_ret
                          exact ⟨by first | rfl | (cases a1_1 <;> rfl) | (cases a1_1 <;> simp <;> rfl) | (cases a1_1 <;> simp) | (simp [errW_none, errW_some] <;> rfl) | (simp [*, errW_none, errW_some] <;> rfl), by repeat (first | (with_reducible first | exact HB.out | apply below_alloc | apply pw_below_drewN | apply below_drew1 | refine below_set ?_ GE103.out) | exact HB.out)⟩
                      · rw [if_neg c36] at H
                        have c36b0 : (a1_0 == a1_3) = false := by simpa using c36
                        (try (have c36b1 : decide (a1_0 = a1_3) = false := by simpa using c36))
                        (try (have c36b2 : (a1_0 == a1_3) = false := by simpa using c36))
                        (try (have c36b3 : ¬ (a1_0 = a1_3) := by simpa using c36))
                        clear c36
                        by_cases c40 : (Int.tmod a0 2) = 1
                        · rw [if_pos c40] at H
                          have c40b0 : ((Int.tmod a0 2) == 1) = true := beq_iff_eq.mpr c40
                          have c40b1 : ((Int.tmod a0 2) != 1) = false := bne_eq_false_iff_eq.mpr c40
                          clear c40
                          obtain rfl := Option.some.inj H
                          have hcz41_0 : wc.cell? ⟨gb103, 0, none⟩ = some (.bool a1_0) := (blk_cell BK103.out 0).trans rfl
                          have hcz41_1 : wc.cell? ⟨gb103, 1, none⟩ = some (.bool a1_1) := (blk_cell BK103.out 1).trans rfl
                          have hcz41_2 : wc.cell? ⟨gb103, 2, none⟩ = some (.bool a1_2) := (blk_cell BK103.out 2).trans rfl
                          have hcz41_3 : wc.cell? ⟨gb103, 3, none⟩ = some (.bool a1_3) := (blk_cell BK103.out 3).trans rfl
                          have hfz41_0 := blk_frozen BK103.out 0
                          have hfz41_1 := blk_frozen BK103.out 1
                          have hfz41_2 := blk_frozen BK103.out 2
                          have hfz41_3 := blk_frozen BK103.out 3
                          go_wp2
                          go_ret
                          exact ⟨by first | rfl | (cases a1_1 <;> rfl) | (cases a1_1 <;> simp <;> rfl) | (cases a1_1 <;> simp) | (simp [errW_none, errW_some] <;> rfl) | (simp [*, errW_none, errW_some] <;> rfl), by repeat (first | (with_reducible first | exact HB.out | apply below_alloc | apply pw_below_drewN | apply below_drew1 | refine below_set ?_ GE103.out) | exact HB.out)⟩
                        · rw [if_neg c40] at H
                          have c40b0 : ((Int.tmod a0 2) == 1) = false := beq_eq_false_iff_ne.mpr c40
                          have c40b1 : ((Int.tmod a0 2) != 1) = true := bne_iff_ne.mpr c40
                          obtain rfl := Option.some.inj H
                          have hcz42_0 : wc.cell? ⟨gb103, 0, none⟩ = some (.bool a1_0) := (blk_cell BK103.out 0).trans rfl
                          have hcz42_1 : wc.cell? ⟨gb103, 1, none⟩ = some (.bool a1_1) := (blk_cell BK103.out 1).trans rfl
                          have hcz42_2 : wc.cell? ⟨gb103, 2, none⟩ = some (.bool a1_2) := (blk_cell BK103.out 2).trans rfl
                          have hcz42_3 : wc.cell? ⟨gb103, 3, none⟩ = some (.bool a1_3) := (blk_cell BK103.out 3).trans rfl
                          have hfz42_0 := blk_frozen BK103.out 0
                          have hfz42_1 := blk_frozen BK103.out 1
                          have hfz42_2 := blk_frozen BK103.out 2
                          have hfz42_3 := blk_frozen BK103.out 3
                          go_wp2
                          go_ret
                          exact ⟨by first | rfl | (cases a1_1 <;> rfl) | (cases a1_1 <;> simp <;> rfl) | (cases a1_1 <;> simp) | (simp [errW_none, errW_some] <;> rfl) | (simp [*, errW_none, errW_some] <;> rfl), by repeat (first | (with_reducible first | exact HB.out | apply below_alloc | apply pw_below_drewN | apply below_drew1 | refine below_set ?_ GE103.out) | exact HB.out)⟩
                    · rw [if_neg c35] at H
                      have c35b0 : ((wrap64 (Int.tdiv a0 2)) == 6) = false := beq_eq_false_iff_ne.mpr c35
                      have c35b1 : ((wrap64 (Int.tdiv a0 2)) != 6) = true := bne_iff_ne.mpr c35
                      by_cases c43 : (Int.tmod a0 2) = 1
                      · rw [if_pos c43] at H
                        have c43b0 : ((Int.tmod a0 2) == 1) = true := beq_iff_eq.mpr c43
                        have c43b1 : ((Int.tmod a0 2) != 1) = false := bne_eq_false_iff_eq.mpr c43
                        clear c43
                        obtain rfl := Option.some.inj H
                        go_wp2
                        go_ret
                        exact ⟨by first | rfl | (cases a1_1 <;> rfl) | (cases a1_1 <;> simp <;> rfl) | (cases a1_1 <;> simp) | (simp [errW_none, errW_some] <;> rfl) | (simp [*, errW_none, errW_some] <;> rfl), by repeat (first | (with_reducible first | exact HB.out | apply below_alloc | apply pw_below_drewN | apply below_drew1 | refine below_set ?_ GE103.out) | exact HB.out)⟩
                      · rw [if_neg c43] at H
                        have c43b0 : ((Int.tmod a0 2) == 1) = false := beq_eq_false_iff_ne.mpr c43
                        have c43b1 : ((Int.tmod a0 2) != 1) = true := bne_iff_ne.mpr c43
                        obtain rfl := Option.some.inj H
                        go_wp2
                        go_ret
                        exact ⟨by first | rfl | (cases a1_1 <;> rfl) | (cases a1_1 <;> simp <;> rfl) | (cases a1_1 <;> simp) | (simp [errW_none, errW_some] <;> rfl) | (simp [*, errW_none, errW_some] <;> rfl), by repeat (first | (with_reducible first | exact HB.out | apply below_alloc | apply pw_below_drewN | apply below_drew1 | refine below_set ?_ GE103.out) | exact HB.out)⟩

end Go.Proofs.Ytjhgbddcenhkfaa.P
