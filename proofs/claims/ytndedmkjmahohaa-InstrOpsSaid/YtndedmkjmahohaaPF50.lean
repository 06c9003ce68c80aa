/- Ytndedmkjmahohaa: what Go functions come to, and that they do: walks, printed by a program of this session or typed by hand; no statement of the seat stands here. -/
import Derived.Test.YtndedmkjmahohaaP0
namespace Go.Proofs.Ytndedmkjmahohaa.P
open Go.RowKit Go.Proofs.YtndedmkjmahohaaW.PrintWords Go.Proofs.YtndedmkjmahohaaW.PrintLast Go.Proofs.YtndedmkjmahohaaW.PrintMore
attribute [local go_sem] max2_int min2_int max_two min_two max_three min_three max_four min_four   -- for this text's walks alone
set_option linter.unusedVariables false
set_option linter.unusedSimpArgs false

/-! ### instr_effect: function 50 -/
mutual
def instr_effect.j0 : Nat → Int → Bool → Option (ByteArray × ByteArray)
  | 0, _, _ => none
  | k + 1, x4, x5 => if x5 = true then (some ((⟨#[]⟩ : ByteArray), (⟨#[105]⟩ : ByteArray))) else (if x4 = 4 then (instr_effect.j1 k x4 (x4 == 4)) else (instr_effect.j1 k x4 (x4 == 32)))
def instr_effect.j1 : Nat → Int → Bool → Option (ByteArray × ByteArray)
  | 0, _, _ => none
  | k + 1, x4, x13 => if x13 = true then (some ((⟨#[105]⟩ : ByteArray), (⟨#[]⟩ : ByteArray))) else (if x4 = 5 then (some ((⟨#[97]⟩ : ByteArray), (⟨#[]⟩ : ByteArray))) else (if x4 = 6 then (some ((⟨#[97]⟩ : ByteArray), (⟨#[97, 97]⟩ : ByteArray))) else (if x4 = 7 then (some ((⟨#[97, 97]⟩ : ByteArray), (⟨#[97, 97]⟩ : ByteArray))) else (if x4 = 8 then (instr_effect.j2 k x4 (x4 == 8)) else (if x4 = 9 then (instr_effect.j2 k x4 (x4 == 9)) else (if x4 = 10 then (instr_effect.j2 k x4 (x4 == 10)) else (if x4 = 11 then (instr_effect.j2 k x4 (x4 == 11)) else (if x4 = 12 then (instr_effect.j2 k x4 (x4 == 12)) else (if x4 = 13 then (instr_effect.j2 k x4 (x4 == 13)) else (if x4 = 14 then (instr_effect.j2 k x4 (x4 == 14)) else (if x4 = 15 then (instr_effect.j2 k x4 (x4 == 15)) else (if x4 = 16 then (instr_effect.j2 k x4 (x4 == 16)) else (instr_effect.j2 k x4 (x4 == 17))))))))))))))
def instr_effect.j2 : Nat → Int → Bool → Option (ByteArray × ByteArray)
  | 0, _, _ => none
  | k + 1, x4, x22 => if x22 = true then (some ((⟨#[105, 105]⟩ : ByteArray), (⟨#[105]⟩ : ByteArray))) else (if x4 = 18 then (instr_effect.j3 k x4 (x4 == 18)) else (if x4 = 19 then (instr_effect.j3 k x4 (x4 == 19)) else (instr_effect.j3 k x4 (x4 == 33))))
def instr_effect.j3 : Nat → Int → Bool → Option (ByteArray × ByteArray)
  | 0, _, _ => none
  | k + 1, x4, x33 => if x33 = true then (some ((⟨#[105]⟩ : ByteArray), (⟨#[105]⟩ : ByteArray))) else (if x4 = 20 then (instr_effect.j4 k x4 (x4 == 20)) else (if x4 = 21 then (instr_effect.j4 k x4 (x4 == 21)) else (if x4 = 22 then (instr_effect.j4 k x4 (x4 == 22)) else (instr_effect.j4 k x4 (x4 == 23)))))
def instr_effect.j4 : Nat → Int → Bool → Option (ByteArray × ByteArray)
  | 0, _, _ => none
  | k + 1, x4, x37 => if x37 = true then (some ((⟨#[105, 105]⟩ : ByteArray), (⟨#[102]⟩ : ByteArray))) else (if x4 = 24 then (some ((⟨#[102]⟩ : ByteArray), (⟨#[102]⟩ : ByteArray))) else (if x4 = 25 then (instr_effect.j5 k x4 (x4 == 25)) else (instr_effect.j5 k x4 (x4 == 26))))
def instr_effect.j5 : Nat → Int → Bool → Option (ByteArray × ByteArray)
  | 0, _, _ => none
  | k + 1, x4, x44 => if x44 = true then (some ((⟨#[102, 102]⟩ : ByteArray), (⟨#[102]⟩ : ByteArray))) else (if x4 = 27 then (some ((⟨#[102]⟩ : ByteArray), (⟨#[105]⟩ : ByteArray))) else (if x4 = 28 then (some ((⟨#[105, 105, 102]⟩ : ByteArray), (⟨#[105]⟩ : ByteArray))) else (if x4 = 30 then (some ((⟨#[102]⟩ : ByteArray), (⟨#[]⟩ : ByteArray))) else (if x4 = 34 then (some ((⟨#[105, 105]⟩ : ByteArray), (⟨#[]⟩ : ByteArray))) else (if x4 = 35 then (some ((⟨#[105]⟩ : ByteArray), (⟨#[102]⟩ : ByteArray))) else (if x4 = 36 then (some ((⟨#[105]⟩ : ByteArray), (⟨#[105, 102]⟩ : ByteArray))) else (some ((⟨#[]⟩ : ByteArray), (⟨#[]⟩ : ByteArray)))))))))
end
def instr_effect.f (k : Nat) (a0 : Int) : Option (ByteArray × ByteArray) := if a0 = 1 then (instr_effect.j0 k a0 (a0 == 1)) else (if a0 = 2 then (instr_effect.j0 k a0 (a0 == 2)) else (if a0 = 3 then (instr_effect.j0 k a0 (a0 == 3)) else (if a0 = 37 then (instr_effect.j0 k a0 (a0 == 37)) else (if a0 = 48 then (instr_effect.j0 k a0 (a0 == 48)) else (if a0 = 49 then (instr_effect.j0 k a0 (a0 == 49)) else (instr_effect.j0 k a0 (a0 == 50)))))))
theorem instr_effect.mono_l : ∀ k, (∀ y0 y1, LeO (instr_effect.j0 k y0 y1) (instr_effect.j0 (k + 1) y0 y1)) ∧ (∀ y0 y1, LeO (instr_effect.j1 k y0 y1) (instr_effect.j1 (k + 1) y0 y1)) ∧ (∀ y0 y1, LeO (instr_effect.j2 k y0 y1) (instr_effect.j2 (k + 1) y0 y1)) ∧ (∀ y0 y1, LeO (instr_effect.j3 k y0 y1) (instr_effect.j3 (k + 1) y0 y1)) ∧ (∀ y0 y1, LeO (instr_effect.j4 k y0 y1) (instr_effect.j4 (k + 1) y0 y1)) ∧ (∀ y0 y1, LeO (instr_effect.j5 k y0 y1) (instr_effect.j5 (k + 1) y0 y1))
  | 0 => ⟨fun _ _ r h => by simp [instr_effect.j0] at h, fun _ _ r h => by simp [instr_effect.j1] at h, fun _ _ r h => by simp [instr_effect.j2] at h, fun _ _ r h => by simp [instr_effect.j3] at h, fun _ _ r h => by simp [instr_effect.j4] at h, fun _ _ r h => by simp [instr_effect.j5] at h⟩
  | k + 1 => by
    obtain ⟨ih0, ih1, ih2, ih3, ih4, ih5⟩ := instr_effect.mono_l k
    refine ⟨?_, ?_, ?_, ?_, ?_, ?_⟩
    · intro y0 y1
      unfold instr_effect.j0
      repeat' first
      | (with_reducible exact ih0 _ _)
      | (with_reducible exact ih1 _ _)
      | (with_reducible exact ih2 _ _)
      | (with_reducible exact ih3 _ _)
      | (with_reducible exact ih4 _ _)
      | (with_reducible exact ih5 _ _)
      | (with_reducible exact LeO.refl _)
      | (with_reducible exact LeO.none _)
      | (with_reducible refine LeO.ite ?_ ?_)
      | (with_reducible refine LeO.bind ?_ (fun _ => ?_))
      | exact ih0 _ _
      | exact ih1 _ _
      | exact ih2 _ _
      | exact ih3 _ _
      | exact ih4 _ _
      | exact ih5 _ _
      | exact LeO.none _
      | refine LeO.ite ?_ ?_
      | refine LeO.bind ?_ (fun _ => ?_)
    · intro y0 y1
      unfold instr_effect.j1
      repeat' first
      | (with_reducible exact ih0 _ _)
      | (with_reducible exact ih1 _ _)
      | (with_reducible exact ih2 _ _)
      | (with_reducible exact ih3 _ _)
      | (with_reducible exact ih4 _ _)
      | (with_reducible exact ih5 _ _)
      | (with_reducible exact LeO.refl _)
      | (with_reducible exact LeO.none _)
      | (with_reducible refine LeO.ite ?_ ?_)
      | (with_reducible refine LeO.bind ?_ (fun _ => ?_))
      | exact ih0 _ _
      | exact ih1 _ _
      | exact ih2 _ _
      | exact ih3 _ _
      | exact ih4 _ _
      | exact ih5 _ _
      | exact LeO.none _
      | refine LeO.ite ?_ ?_
      | refine LeO.bind ?_ (fun _ => ?_)
    · intro y0 y1
      unfold instr_effect.j2
      repeat' first
      | (with_reducible exact ih0 _ _)
      | (with_reducible exact ih1 _ _)
      | (with_reducible exact ih2 _ _)
      | (with_reducible exact ih3 _ _)
      | (with_reducible exact ih4 _ _)
      | (with_reducible exact ih5 _ _)
      | (with_reducible exact LeO.refl _)
      | (with_reducible exact LeO.none _)
      | (with_reducible refine LeO.ite ?_ ?_)
      | (with_reducible refine LeO.bind ?_ (fun _ => ?_))
      | exact ih0 _ _
      | exact ih1 _ _
      | exact ih2 _ _
      | exact ih3 _ _
      | exact ih4 _ _
      | exact ih5 _ _
      | exact LeO.none _
      | refine LeO.ite ?_ ?_
      | refine LeO.bind ?_ (fun _ => ?_)
    · intro y0 y1
      unfold instr_effect.j3
      repeat' first
      | (with_reducible exact ih0 _ _)
      | (with_reducible exact ih1 _ _)
      | (with_reducible exact ih2 _ _)
      | (with_reducible exact ih3 _ _)
      | (with_reducible exact ih4 _ _)
      | (with_reducible exact ih5 _ _)
      | (with_reducible exact LeO.refl _)
      | (with_reducible exact LeO.none _)
      | (with_reducible refine LeO.ite ?_ ?_)
      | (with_reducible refine LeO.bind ?_ (fun _ => ?_))
      | exact ih0 _ _
      | exact ih1 _ _
      | exact ih2 _ _
      | exact ih3 _ _
      | exact ih4 _ _
      | exact ih5 _ _
      | exact LeO.none _
      | refine LeO.ite ?_ ?_
      | refine LeO.bind ?_ (fun _ => ?_)
    · intro y0 y1
      unfold instr_effect.j4
      repeat' first
      | (with_reducible exact ih0 _ _)
      | (with_reducible exact ih1 _ _)
      | (with_reducible exact ih2 _ _)
      | (with_reducible exact ih3 _ _)
      | (with_reducible exact ih4 _ _)
      | (with_reducible exact ih5 _ _)
      | (with_reducible exact LeO.refl _)
      | (with_reducible exact LeO.none _)
      | (with_reducible refine LeO.ite ?_ ?_)
      | (with_reducible refine LeO.bind ?_ (fun _ => ?_))
      | exact ih0 _ _
      | exact ih1 _ _
      | exact ih2 _ _
      | exact ih3 _ _
      | exact ih4 _ _
      | exact ih5 _ _
      | exact LeO.none _
      | refine LeO.ite ?_ ?_
      | refine LeO.bind ?_ (fun _ => ?_)
    · intro y0 y1
      unfold instr_effect.j5
      repeat' first
      | (with_reducible exact ih0 _ _)
      | (with_reducible exact ih1 _ _)
      | (with_reducible exact ih2 _ _)
      | (with_reducible exact ih3 _ _)
      | (with_reducible exact ih4 _ _)
      | (with_reducible exact ih5 _ _)
      | (with_reducible exact LeO.refl _)
      | (with_reducible exact LeO.none _)
      | (with_reducible refine LeO.ite ?_ ?_)
      | (with_reducible refine LeO.bind ?_ (fun _ => ?_))
      | exact ih0 _ _
      | exact ih1 _ _
      | exact ih2 _ _
      | exact ih3 _ _
      | exact ih4 _ _
      | exact ih5 _ _
      | exact LeO.none _
      | refine LeO.ite ?_ ?_
      | refine LeO.bind ?_ (fun _ => ?_)
theorem instr_effect.mono : ∀ a0 k, LeO (instr_effect.f k a0) (instr_effect.f (k + 1) a0) := by
  intro a0 k
  obtain ⟨ih0, ih1, ih2, ih3, ih4, ih5⟩ := instr_effect.mono_l k
  unfold instr_effect.f
  repeat' first
      | (with_reducible exact ih0 _ _)
      | (with_reducible exact ih1 _ _)
      | (with_reducible exact ih2 _ _)
      | (with_reducible exact ih3 _ _)
      | (with_reducible exact ih4 _ _)
      | (with_reducible exact ih5 _ _)
      | (with_reducible exact LeO.refl _)
      | (with_reducible exact LeO.none _)
      | (with_reducible refine LeO.ite ?_ ?_)
      | (with_reducible refine LeO.bind ?_ (fun _ => ?_))
      | exact ih0 _ _
      | exact ih1 _ _
      | exact ih2 _ _
      | exact ih3 _ _
      | exact ih4 _ _
      | exact ih5 _ _
      | exact LeO.none _
      | refine LeO.ite ?_ ?_
      | refine LeO.bind ?_ (fun _ => ?_)
set_option maxHeartbeats 8000000 in
set_option maxRecDepth 100000 in
theorem instr_effect.calls (k : Nat) (a0 : Int) (r1 : ByteArray) (r2 : ByteArray) (w : World) (h : instr_effect.f k a0 = some (r1, r2)) :
    Calls Try.prog 50 #[.int .i64 a0] w fun e w' => e = .returned (.tuple #[.string r1, .string r2]) ∧ Drawn0 w w' := by
  have H : (if a0 = 1 then (instr_effect.j0 k a0 (a0 == 1)) else (if a0 = 2 then (instr_effect.j0 k a0 (a0 == 2)) else (if a0 = 3 then (instr_effect.j0 k a0 (a0 == 3)) else (if a0 = 37 then (instr_effect.j0 k a0 (a0 == 37)) else (if a0 = 48 then (instr_effect.j0 k a0 (a0 == 48)) else (if a0 = 49 then (instr_effect.j0 k a0 (a0 == 49)) else (instr_effect.j0 k a0 (a0 == 50)))))))) = some (r1, r2) := h
  clear h
  have HC2 := Aside0.mk H
  clear H
  go_enter Try.func50, Try.ntmps50
  go_upto_if 5 with (fail)
  go_cut [5] (fun v5 wc => ∃ (kq : Nat) (x5_1 : Bool), v5 = .bool x5_1 ∧ Aside0 (instr_effect.j0 kq a0 x5_1 = some (r1, r2)) ∧ Aside0 (kq ≤ k) ∧ Drawn0 w wc)
  case first =>
    have H := HC2.out
    clear HC2
    by_cases c3 : a0 = 1
    · rw [if_pos c3] at H
      have c3b0 : (a0 == 1) = true := beq_iff_eq.mpr c3
      have c3b1 : (a0 != 1) = false := bne_eq_false_iff_eq.mpr c3
      clear c3
      (first | rw [c3b0] | (simp only [i64_w, i32_w]; rw [c3b0]) | skip)
      have H' := Aside0.mk H
      clear H
      go_wp2
      go_meet
      case rel => exact ⟨_, ((a0 == 1)), (by first | rfl | (simp; done) | (simp [*]; done)), H', ⟨by first | omega | exact Nat.le_refl _⟩, by repeat (first | exact Drawn0.refl _ | apply Drawn0.step)⟩
    · rw [if_neg c3] at H
      have c3b0 : (a0 == 1) = false := beq_eq_false_iff_ne.mpr c3
      have c3b1 : (a0 != 1) = true := bne_iff_ne.mpr c3
      (first | rw [c3b0] | (simp only [i64_w, i32_w]; rw [c3b0]) | skip)
      by_cases c4 : a0 = 2
      · rw [if_pos c4] at H
        have c4b0 : (a0 == 2) = true := beq_iff_eq.mpr c4
        have c4b1 : (a0 != 2) = false := bne_eq_false_iff_eq.mpr c4
        clear c4
        have H' := Aside0.mk H
        clear H
        go_wp2
        go_meet
        case rel => exact ⟨_, ((a0 == 2)), (by first | rfl | (simp; done) | (simp [*]; done)), H', ⟨by first | omega | exact Nat.le_refl _⟩, by repeat (first | exact Drawn0.refl _ | apply Drawn0.step)⟩
      · rw [if_neg c4] at H
        have c4b0 : (a0 == 2) = false := beq_eq_false_iff_ne.mpr c4
        have c4b1 : (a0 != 2) = true := bne_iff_ne.mpr c4
        by_cases c5 : a0 = 3
        · rw [if_pos c5] at H
          have c5b0 : (a0 == 3) = true := beq_iff_eq.mpr c5
          have c5b1 : (a0 != 3) = false := bne_eq_false_iff_eq.mpr c5
          clear c5
          have H' := Aside0.mk H
          clear H
          go_wp2
          go_meet
          case rel => exact ⟨_, ((a0 == 3)), (by first | rfl | (simp; done) | (simp [*]; done)), H', ⟨by first | omega | exact Nat.le_refl _⟩, by repeat (first | exact Drawn0.refl _ | apply Drawn0.step)⟩
        · rw [if_neg c5] at H
          have c5b0 : (a0 == 3) = false := beq_eq_false_iff_ne.mpr c5
          have c5b1 : (a0 != 3) = true := bne_iff_ne.mpr c5
          by_cases c6 : a0 = 37
          · rw [if_pos c6] at H
            have c6b0 : (a0 == 37) = true := beq_iff_eq.mpr c6
            have c6b1 : (a0 != 37) = false := bne_eq_false_iff_eq.mpr c6
            clear c6
            have H' := Aside0.mk H
            clear H
            go_wp2
            go_meet
            case rel => exact ⟨_, ((a0 == 37)), (by first | rfl | (simp; done) | (simp [*]; done)), H', ⟨by first | omega | exact Nat.le_refl _⟩, by repeat (first | exact Drawn0.refl _ | apply Drawn0.step)⟩
          · rw [if_neg c6] at H
            have c6b0 : (a0 == 37) = false := beq_eq_false_iff_ne.mpr c6
            have c6b1 : (a0 != 37) = true := bne_iff_ne.mpr c6
            by_cases c7 : a0 = 48
            · rw [if_pos c7] at H
              have c7b0 : (a0 == 48) = true := beq_iff_eq.mpr c7
              have c7b1 : (a0 != 48) = false := bne_eq_false_iff_eq.mpr c7
              clear c7
              have H' := Aside0.mk H
              clear H
              go_wp2
              go_meet
              case rel => exact ⟨_, ((a0 == 48)), (by first | rfl | (simp; done) | (simp [*]; done)), H', ⟨by first | omega | exact Nat.le_refl _⟩, by repeat (first | exact Drawn0.refl _ | apply Drawn0.step)⟩
            · rw [if_neg c7] at H
              have c7b0 : (a0 == 48) = false := beq_eq_false_iff_ne.mpr c7
              have c7b1 : (a0 != 48) = true := bne_iff_ne.mpr c7
              by_cases c8 : a0 = 49
              · rw [if_pos c8] at H
                have c8b0 : (a0 == 49) = true := beq_iff_eq.mpr c8
                have c8b1 : (a0 != 49) = false := bne_eq_false_iff_eq.mpr c8
                clear c8
                have H' := Aside0.mk H
                clear H
                go_wp2
                go_meet
                case rel => exact ⟨_, ((a0 == 49)), (by first | rfl | (simp; done) | (simp [*]; done)), H', ⟨by first | omega | exact Nat.le_refl _⟩, by repeat (first | exact Drawn0.refl _ | apply Drawn0.step)⟩
              · rw [if_neg c8] at H
                have c8b0 : (a0 == 49) = false := beq_eq_false_iff_ne.mpr c8
                have c8b1 : (a0 != 49) = true := bne_iff_ne.mpr c8
                have H' := Aside0.mk H
                clear H
                go_wp2
                go_meet
                case rel => exact ⟨_, ((a0 == 50)), (by first | rfl | (simp; done) | (simp [*]; done)), H', ⟨by first | omega | exact Nat.le_refl _⟩, by repeat (first | exact Drawn0.refl _ | apply Drawn0.step)⟩
  case rest =>
    clear HC2
    try clear p2
    try clear c3
    try clear c3b0
    try clear c3b1
    try clear c4
    try clear c4b0
    try clear c4b1
    try clear c5
    try clear c5b0
    try clear c5b1
    try clear c6
    try clear c6b0
    try clear c6b1
    try clear c7
    try clear c7b0
    try clear c7b1
    try clear c8
    try clear c8b0
    try clear c8b1
    obtain ⟨kq, x5_1, rfl, HA, HJ1, ⟨mc1, rfl⟩⟩ := hcut
    cases kq with
    | zero => exact absurd HA.out (by simp [instr_effect.j0])
    | succ kj1 =>
      have H := HA.out
      clear HA
      simp only [instr_effect.j0] at H
      by_cases c9 : x5_1 = true
      · subst c9
        have H1 : (some ((⟨#[]⟩ : ByteArray), (⟨#[105]⟩ : ByteArray))) = some (r1, r2) := by rw [if_pos rfl] at H; exact H
        clear H
        have H := H1
        clear H1
        simp only [Option.some.injEq, Prod.mk.injEq] at H
        obtain ⟨rfl, rfl⟩ := H
        go_wp2
        go_ret2
        exact ⟨by first | rfl | (simp; done) | (simp [*]; done), by repeat (first | exact Drawn0.refl _ | apply Drawn0.step)⟩
      · replace c9 := Bool.eq_false_iff.mpr c9
        subst c9
        have H1 : (if a0 = 4 then (instr_effect.j1 kj1 a0 (a0 == 4)) else (instr_effect.j1 kj1 a0 (a0 == 32))) = some (r1, r2) := by rw [if_neg (show ¬ (false = true) by decide)] at H; exact H
        clear H
        have H := H1
        clear H1
        have HC10 := Aside0.mk H
        clear H
        go_upto_if 13 with (fail)
        go_cut [13] (fun v13 wc => ∃ (kq : Nat) (x13_9 : Bool), v13 = .bool x13_9 ∧ Aside0 (instr_effect.j1 kq a0 x13_9 = some (r1, r2)) ∧ Aside0 (kq ≤ kj1) ∧ Drawn0 w wc)
        case first =>
          have H := HC10.out
          clear HC10
          by_cases c11 : a0 = 4
          · rw [if_pos c11] at H
            have c11b0 : (a0 == 4) = true := beq_iff_eq.mpr c11
            have c11b1 : (a0 != 4) = false := bne_eq_false_iff_eq.mpr c11
            clear c11
            (first | rw [c11b0] | (simp only [i64_w, i32_w]; rw [c11b0]) | skip)
            have H' := Aside0.mk H
            clear H
            go_wp2
            go_meet
            case rel => exact ⟨_, ((a0 == 4)), (by first | rfl | (simp; done) | (simp [*]; done)), H', ⟨by have := HJ1.out; first | omega | exact Nat.le_refl _⟩, by repeat (first | exact Drawn0.refl _ | apply Drawn0.step)⟩
          · rw [if_neg c11] at H
            have c11b0 : (a0 == 4) = false := beq_eq_false_iff_ne.mpr c11
            have c11b1 : (a0 != 4) = true := bne_iff_ne.mpr c11
            (first | rw [c11b0] | (simp only [i64_w, i32_w]; rw [c11b0]) | skip)
            have H' := Aside0.mk H
            clear H
            go_wp2
            go_meet
            case rel => exact ⟨_, ((a0 == 32)), (by first | rfl | (simp; done) | (simp [*]; done)), H', ⟨by have := HJ1.out; first | omega | exact Nat.le_refl _⟩, by repeat (first | exact Drawn0.refl _ | apply Drawn0.step)⟩
        case rest =>
          clear HC10
          try clear c1
          try clear p2
          try clear c3
          try clear c3b0
          try clear c3b1
          try clear c4
          try clear c4b0
          try clear c4b1
          try clear c5
          try clear c5b0
          try clear c5b1
          try clear c6
          try clear c6b0
          try clear c6b1
          try clear c7
          try clear c7b0
          try clear c7b1
          try clear c8
          try clear c8b0
          try clear c8b1
          try clear c9
          try clear c11
          try clear c11b0
          try clear c11b1
          try clear p2
          obtain ⟨kq, x13_9, rfl, HA, HJ9, ⟨mc9, rfl⟩⟩ := hcut
          cases kq with
          | zero => exact absurd HA.out (by simp [instr_effect.j1])
          | succ kj9 =>
            have H := HA.out
            clear HA
            simp only [instr_effect.j1] at H
            by_cases c12 : x13_9 = true
            · subst c12
              have H1 : (some ((⟨#[105]⟩ : ByteArray), (⟨#[]⟩ : ByteArray))) = some (r1, r2) := by rw [if_pos rfl] at H; exact H
              clear H
              have H := H1
              clear H1
              simp only [Option.some.injEq, Prod.mk.injEq] at H
              obtain ⟨rfl, rfl⟩ := H
              go_wp2
              go_ret2
              exact ⟨by first | rfl | (simp; done) | (simp [*]; done), by repeat (first | exact Drawn0.refl _ | apply Drawn0.step)⟩
            · replace c12 := Bool.eq_false_iff.mpr c12
              subst c12
              have H1 : (if a0 = 5 then (some ((⟨#[97]⟩ : ByteArray), (⟨#[]⟩ : ByteArray))) else (if a0 = 6 then (some ((⟨#[97]⟩ : ByteArray), (⟨#[97, 97]⟩ : ByteArray))) else (if a0 = 7 then (some ((⟨#[97, 97]⟩ : ByteArray), (⟨#[97, 97]⟩ : ByteArray))) else (if a0 = 8 then (instr_effect.j2 kj9 a0 (a0 == 8)) else (if a0 = 9 then (instr_effect.j2 kj9 a0 (a0 == 9)) else (if a0 = 10 then (instr_effect.j2 kj9 a0 (a0 == 10)) else (if a0 = 11 then (instr_effect.j2 kj9 a0 (a0 == 11)) else (if a0 = 12 then (instr_effect.j2 kj9 a0 (a0 == 12)) else (if a0 = 13 then (instr_effect.j2 kj9 a0 (a0 == 13)) else (if a0 = 14 then (instr_effect.j2 kj9 a0 (a0 == 14)) else (if a0 = 15 then (instr_effect.j2 kj9 a0 (a0 == 15)) else (if a0 = 16 then (instr_effect.j2 kj9 a0 (a0 == 16)) else (instr_effect.j2 kj9 a0 (a0 == 17)))))))))))))) = some (r1, r2) := by rw [if_neg (show ¬ (false = true) by decide)] at H; exact H
              clear H
              have H := H1
              clear H1
              by_cases c13 : a0 = 5
              · rw [if_pos c13] at H
                have c13b0 : (a0 == 5) = true := beq_iff_eq.mpr c13
                have c13b1 : (a0 != 5) = false := bne_eq_false_iff_eq.mpr c13
                clear c13
                simp only [Option.some.injEq, Prod.mk.injEq] at H
                obtain ⟨rfl, rfl⟩ := H
                go_wp2
                go_ret2
                exact ⟨by first | rfl | (simp; done) | (simp [*]; done), by repeat (first | exact Drawn0.refl _ | apply Drawn0.step)⟩
              · rw [if_neg c13] at H
                have c13b0 : (a0 == 5) = false := beq_eq_false_iff_ne.mpr c13
                have c13b1 : (a0 != 5) = true := bne_iff_ne.mpr c13
                by_cases c14 : a0 = 6
                · rw [if_pos c14] at H
                  have c14b0 : (a0 == 6) = true := beq_iff_eq.mpr c14
                  have c14b1 : (a0 != 6) = false := bne_eq_false_iff_eq.mpr c14
                  clear c14
                  simp only [Option.some.injEq, Prod.mk.injEq] at H
                  obtain ⟨rfl, rfl⟩ := H
                  go_wp2
                  go_ret2
                  exact ⟨by first | rfl | (simp; done) | (simp [*]; done), by repeat (first | exact Drawn0.refl _ | apply Drawn0.step)⟩
                · rw [if_neg c14] at H
                  have c14b0 : (a0 == 6) = false := beq_eq_false_iff_ne.mpr c14
                  have c14b1 : (a0 != 6) = true := bne_iff_ne.mpr c14
                  by_cases c15 : a0 = 7
                  · rw [if_pos c15] at H
                    have c15b0 : (a0 == 7) = true := beq_iff_eq.mpr c15
                    have c15b1 : (a0 != 7) = false := bne_eq_false_iff_eq.mpr c15
                    clear c15
                    simp only [Option.some.injEq, Prod.mk.injEq] at H
                    obtain ⟨rfl, rfl⟩ := H
                    go_wp2
                    go_ret2
                    exact ⟨by first | rfl | (simp; done) | (simp [*]; done), by repeat (first | exact Drawn0.refl _ | apply Drawn0.step)⟩
                  · rw [if_neg c15] at H
                    have c15b0 : (a0 == 7) = false := beq_eq_false_iff_ne.mpr c15
                    have c15b1 : (a0 != 7) = true := bne_iff_ne.mpr c15
                    have HC16 := Aside0.mk H
                    clear H
                    go_upto_if 22 with (fail)
                    go_cut [22] (fun v22 wc => ∃ (kq : Nat) (x22_15 : Bool), v22 = .bool x22_15 ∧ Aside0 (instr_effect.j2 kq a0 x22_15 = some (r1, r2)) ∧ Aside0 (kq ≤ kj9) ∧ Drawn0 w wc)
                    case first =>
                      have H := HC16.out
                      clear HC16
                      by_cases c17 : a0 = 8
                      · rw [if_pos c17] at H
                        have c17b0 : (a0 == 8) = true := beq_iff_eq.mpr c17
                        have c17b1 : (a0 != 8) = false := bne_eq_false_iff_eq.mpr c17
                        clear c17
                        (first | rw [c17b0] | (simp only [i64_w, i32_w]; rw [c17b0]) | skip)
                        have H' := Aside0.mk H
                        clear H
                        go_wp2
                        go_meet
                        case rel => exact ⟨_, ((a0 == 8)), (by first | rfl | (simp; done) | (simp [*]; done)), H', ⟨by have := HJ1.out; have := HJ9.out; first | omega | exact Nat.le_refl _⟩, by repeat (first | exact Drawn0.refl _ | apply Drawn0.step)⟩
                      · rw [if_neg c17] at H
                        have c17b0 : (a0 == 8) = false := beq_eq_false_iff_ne.mpr c17
                        have c17b1 : (a0 != 8) = true := bne_iff_ne.mpr c17
                        (first | rw [c17b0] | (simp only [i64_w, i32_w]; rw [c17b0]) | skip)
                        by_cases c18 : a0 = 9
                        · rw [if_pos c18] at H
                          have c18b0 : (a0 == 9) = true := beq_iff_eq.mpr c18
                          have c18b1 : (a0 != 9) = false := bne_eq_false_iff_eq.mpr c18
                          clear c18
                          have H' := Aside0.mk H
                          clear H
                          go_wp2
                          go_meet
                          case rel => exact ⟨_, ((a0 == 9)), (by first | rfl | (simp; done) | (simp [*]; done)), H', ⟨by have := HJ1.out; have := HJ9.out; first | omega | exact Nat.le_refl _⟩, by repeat (first | exact Drawn0.refl _ | apply Drawn0.step)⟩
                        · rw [if_neg c18] at H
                          have c18b0 : (a0 == 9) = false := beq_eq_false_iff_ne.mpr c18
                          have c18b1 : (a0 != 9) = true := bne_iff_ne.mpr c18
                          by_cases c19 : a0 = 10
                          · rw [if_pos c19] at H
                            have c19b0 : (a0 == 10) = true := beq_iff_eq.mpr c19
                            have c19b1 : (a0 != 10) = false := bne_eq_false_iff_eq.mpr c19
                            clear c19
                            have H' := Aside0.mk H
                            clear H
                            go_wp2
                            go_meet
                            case rel => exact ⟨_, ((a0 == 10)), (by first | rfl | (simp; done) | (simp [*]; done)), H', ⟨by have := HJ1.out; have := HJ9.out; first | omega | exact Nat.le_refl _⟩, by repeat (first | exact Drawn0.refl _ | apply Drawn0.step)⟩
                          · rw [if_neg c19] at H
                            have c19b0 : (a0 == 10) = false := beq_eq_false_iff_ne.mpr c19
                            have c19b1 : (a0 != 10) = true := bne_iff_ne.mpr c19
                            by_cases c20 : a0 = 11
                            · rw [if_pos c20] at H
                              have c20b0 : (a0 == 11) = true := beq_iff_eq.mpr c20
                              have c20b1 : (a0 != 11) = false := bne_eq_false_iff_eq.mpr c20
                              clear c20
                              have H' := Aside0.mk H
                              clear H
                              go_wp2
                              go_meet
                              case rel => exact ⟨_, ((a0 == 11)), (by first | rfl | (simp; done) | (simp [*]; done)), H', ⟨by have := HJ1.out; have := HJ9.out; first | omega | exact Nat.le_refl _⟩, by repeat (first | exact Drawn0.refl _ | apply Drawn0.step)⟩
                            · rw [if_neg c20] at H
                              have c20b0 : (a0 == 11) = false := beq_eq_false_iff_ne.mpr c20
                              have c20b1 : (a0 != 11) = true := bne_iff_ne.mpr c20
                              by_cases c21 : a0 = 12
                              · rw [if_pos c21] at H
                                have c21b0 : (a0 == 12) = true := beq_iff_eq.mpr c21
                                have c21b1 : (a0 != 12) = false := bne_eq_false_iff_eq.mpr c21
                                clear c21
                                have H' := Aside0.mk H
                                clear H
                                go_wp2
                                go_meet
                                case rel => exact ⟨_, ((a0 == 12)), (by first | rfl | (simp; done) | (simp [*]; done)), H', ⟨by have := HJ1.out; have := HJ9.out; first | omega | exact Nat.le_refl _⟩, by repeat (first | exact Drawn0.refl _ | apply Drawn0.step)⟩
                              · rw [if_neg c21] at H
                                have c21b0 : (a0 == 12) = false := beq_eq_false_iff_ne.mpr c21
                                have c21b1 : (a0 != 12) = true := bne_iff_ne.mpr c21
                                by_cases c22 : a0 = 13
                                · rw [if_pos c22] at H
                                  have c22b0 : (a0 == 13) = true := beq_iff_eq.mpr c22
                                  have c22b1 : (a0 != 13) = false := bne_eq_false_iff_eq.mpr c22
                                  clear c22
                                  have H' := Aside0.mk H
                                  clear H
                                  go_wp2
                                  go_meet
                                  case rel => exact ⟨_, ((a0 == 13)), (by first | rfl | (simp; done) | (simp [*]; done)), H', ⟨by have := HJ1.out; have := HJ9.out; first | omega | exact Nat.le_refl _⟩, by repeat (first | exact Drawn0.refl _ | apply Drawn0.step)⟩
                                · rw [if_neg c22] at H
                                  have c22b0 : (a0 == 13) = false := beq_eq_false_iff_ne.mpr c22
                                  have c22b1 : (a0 != 13) = true := bne_iff_ne.mpr c22
                                  by_cases c23 : a0 = 14
                                  · rw [if_pos c23] at H
                                    have c23b0 : (a0 == 14) = true := beq_iff_eq.mpr c23
                                    have c23b1 : (a0 != 14) = false := bne_eq_false_iff_eq.mpr c23
                                    clear c23
                                    have H' := Aside0.mk H
                                    clear H
                                    go_wp2
                                    go_meet
                                    case rel => exact ⟨_, ((a0 == 14)), (by first | rfl | (simp; done) | (simp [*]; done)), H', ⟨by have := HJ1.out; have := HJ9.out; first | omega | exact Nat.le_refl _⟩, by repeat (first | exact Drawn0.refl _ | apply Drawn0.step)⟩
                                  · rw [if_neg c23] at H
                                    have c23b0 : (a0 == 14) = false := beq_eq_false_iff_ne.mpr c23
                                    have c23b1 : (a0 != 14) = true := bne_iff_ne.mpr c23
                                    by_cases c24 : a0 = 15
                                    · rw [if_pos c24] at H
                                      have c24b0 : (a0 == 15) = true := beq_iff_eq.mpr c24
                                      have c24b1 : (a0 != 15) = false := bne_eq_false_iff_eq.mpr c24
                                      clear c24
                                      have H' := Aside0.mk H
                                      clear H
                                      go_wp2
                                      go_meet
                                      case rel => exact ⟨_, ((a0 == 15)), (by first | rfl | (simp; done) | (simp [*]; done)), H', ⟨by have := HJ1.out; have := HJ9.out; first | omega | exact Nat.le_refl _⟩, by repeat (first | exact Drawn0.refl _ | apply Drawn0.step)⟩
                                    · rw [if_neg c24] at H
                                      have c24b0 : (a0 == 15) = false := beq_eq_false_iff_ne.mpr c24
                                      have c24b1 : (a0 != 15) = true := bne_iff_ne.mpr c24
                                      by_cases c25 : a0 = 16
                                      · rw [if_pos c25] at H
                                        have c25b0 : (a0 == 16) = true := beq_iff_eq.mpr c25
                                        have c25b1 : (a0 != 16) = false := bne_eq_false_iff_eq.mpr c25
                                        clear c25
                                        have H' := Aside0.mk H
                                        clear H
                                        go_wp2
                                        go_meet
                                        case rel => exact ⟨_, ((a0 == 16)), (by first | rfl | (simp; done) | (simp [*]; done)), H', ⟨by have := HJ1.out; have := HJ9.out; first | omega | exact Nat.le_refl _⟩, by repeat (first | exact Drawn0.refl _ | apply Drawn0.step)⟩
                                      · rw [if_neg c25] at H
                                        have c25b0 : (a0 == 16) = false := beq_eq_false_iff_ne.mpr c25
                                        have c25b1 : (a0 != 16) = true := bne_iff_ne.mpr c25
                                        have H' := Aside0.mk H
                                        clear H
                                        go_wp2
                                        go_meet
                                        case rel => exact ⟨_, ((a0 == 17)), (by first | rfl | (simp; done) | (simp [*]; done)), H', ⟨by have := HJ1.out; have := HJ9.out; first | omega | exact Nat.le_refl _⟩, by repeat (first | exact Drawn0.refl _ | apply Drawn0.step)⟩
                    case rest =>
                      clear HC16
                      try clear c1
                      try clear c2
                      try clear p2
                      try clear c3
                      try clear c3b0
                      try clear c3b1
                      try clear c4
                      try clear c4b0
                      try clear c4b1
                      try clear c5
                      try clear c5b0
                      try clear c5b1
                      try clear c6
                      try clear c6b0
                      try clear c6b1
                      try clear c7
                      try clear c7b0
                      try clear c7b1
                      try clear c8
                      try clear c8b0
                      try clear c8b1
                      try clear c9
                      try clear c11
                      try clear c11b0
                      try clear c11b1
                      try clear c12
                      try clear c13
                      try clear c13b0
                      try clear c13b1
                      try clear c14
                      try clear c14b0
                      try clear c14b1
                      try clear c15
                      try clear c15b0
                      try clear c15b1
                      try clear c17
                      try clear c17b0
                      try clear c17b1
                      try clear c18
                      try clear c18b0
                      try clear c18b1
                      try clear c19
                      try clear c19b0
                      try clear c19b1
                      try clear c20
                      try clear c20b0
                      try clear c20b1
                      try clear c21
                      try clear c21b0
                      try clear c21b1
                      try clear c22
                      try clear c22b0
                      try clear c22b1
                      try clear c23
                      try clear c23b0
                      try clear c23b1
                      try clear c24
                      try clear c24b0
                      try clear c24b1
                      try clear c25
                      try clear c25b0
                      try clear c25b1
                      try clear p2
                      obtain ⟨kq, x22_15, rfl, HA, HJ15, ⟨mc15, rfl⟩⟩ := hcut
                      cases kq with
                      | zero => exact absurd HA.out (by simp [instr_effect.j2])
                      | succ kj15 =>
                        have H := HA.out
                        clear HA
                        simp only [instr_effect.j2] at H
                        by_cases c26 : x22_15 = true
                        · subst c26
                          have H1 : (some ((⟨#[105, 105]⟩ : ByteArray), (⟨#[105]⟩ : ByteArray))) = some (r1, r2) := by rw [if_pos rfl] at H; exact H
                          clear H
                          have H := H1
                          clear H1
                          simp only [Option.some.injEq, Prod.mk.injEq] at H
                          obtain ⟨rfl, rfl⟩ := H
                          go_wp2
                          go_ret2
                          exact ⟨by first | rfl | (simp; done) | (simp [*]; done), by repeat (first | exact Drawn0.refl _ | apply Drawn0.step)⟩
                        · replace c26 := Bool.eq_false_iff.mpr c26
                          subst c26
                          have H1 : (if a0 = 18 then (instr_effect.j3 kj15 a0 (a0 == 18)) else (if a0 = 19 then (instr_effect.j3 kj15 a0 (a0 == 19)) else (instr_effect.j3 kj15 a0 (a0 == 33)))) = some (r1, r2) := by rw [if_neg (show ¬ (false = true) by decide)] at H; exact H
                          clear H
                          have H := H1
                          clear H1
                          have HC27 := Aside0.mk H
                          clear H
                          go_upto_if 33 with (fail)
                          go_cut [33] (fun v33 wc => ∃ (kq : Nat) (x33_26 : Bool), v33 = .bool x33_26 ∧ Aside0 (instr_effect.j3 kq a0 x33_26 = some (r1, r2)) ∧ Aside0 (kq ≤ kj15) ∧ Drawn0 w wc)
                          case first =>
                            have H := HC27.out
                            clear HC27
                            by_cases c28 : a0 = 18
                            · rw [if_pos c28] at H
                              have c28b0 : (a0 == 18) = true := beq_iff_eq.mpr c28
                              have c28b1 : (a0 != 18) = false := bne_eq_false_iff_eq.mpr c28
                              clear c28
                              (first | rw [c28b0] | (simp only [i64_w, i32_w]; rw [c28b0]) | skip)
                              have H' := Aside0.mk H
                              clear H
                              go_wp2
                              go_meet
                              case rel => exact ⟨_, ((a0 == 18)), (by first | rfl | (simp; done) | (simp [*]; done)), H', ⟨by have := HJ1.out; have := HJ9.out; have := HJ15.out; first | omega | exact Nat.le_refl _⟩, by repeat (first | exact Drawn0.refl _ | apply Drawn0.step)⟩
                            · rw [if_neg c28] at H
                              have c28b0 : (a0 == 18) = false := beq_eq_false_iff_ne.mpr c28
                              have c28b1 : (a0 != 18) = true := bne_iff_ne.mpr c28
                              (first | rw [c28b0] | (simp only [i64_w, i32_w]; rw [c28b0]) | skip)
                              by_cases c29 : a0 = 19
                              · rw [if_pos c29] at H
                                have c29b0 : (a0 == 19) = true := beq_iff_eq.mpr c29
                                have c29b1 : (a0 != 19) = false := bne_eq_false_iff_eq.mpr c29
                                clear c29
                                have H' := Aside0.mk H
                                clear H
                                go_wp2
                                go_meet
                                case rel => exact ⟨_, ((a0 == 19)), (by first | rfl | (simp; done) | (simp [*]; done)), H', ⟨by have := HJ1.out; have := HJ9.out; have := HJ15.out; first | omega | exact Nat.le_refl _⟩, by repeat (first | exact Drawn0.refl _ | apply Drawn0.step)⟩
                              · rw [if_neg c29] at H
                                have c29b0 : (a0 == 19) = false := beq_eq_false_iff_ne.mpr c29
                                have c29b1 : (a0 != 19) = true := bne_iff_ne.mpr c29
                                have H' := Aside0.mk H
                                clear H
                                go_wp2
                                go_meet
                                case rel => exact ⟨_, ((a0 == 33)), (by first | rfl | (simp; done) | (simp [*]; done)), H', ⟨by have := HJ1.out; have := HJ9.out; have := HJ15.out; first | omega | exact Nat.le_refl _⟩, by repeat (first | exact Drawn0.refl _ | apply Drawn0.step)⟩
                          case rest =>
                            clear HC27
                            try clear c1
                            try clear c2
                            try clear p2
                            try clear c3
                            try clear c3b0
                            try clear c3b1
                            try clear c4
                            try clear c4b0
                            try clear c4b1
                            try clear c5
                            try clear c5b0
                            try clear c5b1
                            try clear c6
                            try clear c6b0
                            try clear c6b1
                            try clear c7
                            try clear c7b0
                            try clear c7b1
                            try clear c8
                            try clear c8b0
                            try clear c8b1
                            try clear c9
                            try clear c11
                            try clear c11b0
                            try clear c11b1
                            try clear c12
                            try clear c13
                            try clear c13b0
                            try clear c13b1
                            try clear c14
                            try clear c14b0
                            try clear c14b1
                            try clear c15
                            try clear c15b0
                            try clear c15b1
                            try clear c17
                            try clear c17b0
                            try clear c17b1
                            try clear c18
                            try clear c18b0
                            try clear c18b1
                            try clear c19
                            try clear c19b0
                            try clear c19b1
                            try clear c20
                            try clear c20b0
                            try clear c20b1
                            try clear c21
                            try clear c21b0
                            try clear c21b1
                            try clear c22
                            try clear c22b0
                            try clear c22b1
                            try clear c23
                            try clear c23b0
                            try clear c23b1
                            try clear c24
                            try clear c24b0
                            try clear c24b1
                            try clear c25
                            try clear c25b0
                            try clear c25b1
                            try clear c26
                            try clear c28
                            try clear c28b0
                            try clear c28b1
                            try clear c29
                            try clear c29b0
                            try clear c29b1
                            try clear p2
                            obtain ⟨kq, x33_26, rfl, HA, HJ26, ⟨mc26, rfl⟩⟩ := hcut
                            cases kq with
                            | zero => exact absurd HA.out (by simp [instr_effect.j3])
                            | succ kj26 =>
                              have H := HA.out
                              clear HA
                              simp only [instr_effect.j3] at H
                              by_cases c30 : x33_26 = true
                              · subst c30
                                have H1 : (some ((⟨#[105]⟩ : ByteArray), (⟨#[105]⟩ : ByteArray))) = some (r1, r2) := by rw [if_pos rfl] at H; exact H
                                clear H
                                have H := H1
                                clear H1
                                simp only [Option.some.injEq, Prod.mk.injEq] at H
                                obtain ⟨rfl, rfl⟩ := H
                                go_wp2
                                go_ret2
                                exact ⟨by first | rfl | (simp; done) | (simp [*]; done), by repeat (first | exact Drawn0.refl _ | apply Drawn0.step)⟩
                              · replace c30 := Bool.eq_false_iff.mpr c30
                                subst c30
                                have H1 : (if a0 = 20 then (instr_effect.j4 kj26 a0 (a0 == 20)) else (if a0 = 21 then (instr_effect.j4 kj26 a0 (a0 == 21)) else (if a0 = 22 then (instr_effect.j4 kj26 a0 (a0 == 22)) else (instr_effect.j4 kj26 a0 (a0 == 23))))) = some (r1, r2) := by rw [if_neg (show ¬ (false = true) by decide)] at H; exact H
                                clear H
                                have H := H1
                                clear H1
                                have HC31 := Aside0.mk H
                                clear H
                                go_upto_if 37 with (fail)
                                go_cut [37] (fun v37 wc => ∃ (kq : Nat) (x37_30 : Bool), v37 = .bool x37_30 ∧ Aside0 (instr_effect.j4 kq a0 x37_30 = some (r1, r2)) ∧ Aside0 (kq ≤ kj26) ∧ Drawn0 w wc)
                                case first =>
                                  have H := HC31.out
                                  clear HC31
                                  by_cases c32 : a0 = 20
                                  · rw [if_pos c32] at H
                                    have c32b0 : (a0 == 20) = true := beq_iff_eq.mpr c32
                                    have c32b1 : (a0 != 20) = false := bne_eq_false_iff_eq.mpr c32
                                    clear c32
                                    (first | rw [c32b0] | (simp only [i64_w, i32_w]; rw [c32b0]) | skip)
                                    have H' := Aside0.mk H
                                    clear H
                                    go_wp2
                                    go_meet
                                    case rel => exact ⟨_, ((a0 == 20)), (by first | rfl | (simp; done) | (simp [*]; done)), H', ⟨by have := HJ1.out; have := HJ9.out; have := HJ15.out; have := HJ26.out; first | omega | exact Nat.le_refl _⟩, by repeat (first | exact Drawn0.refl _ | apply Drawn0.step)⟩
                                  · rw [if_neg c32] at H
                                    have c32b0 : (a0 == 20) = false := beq_eq_false_iff_ne.mpr c32
                                    have c32b1 : (a0 != 20) = true := bne_iff_ne.mpr c32
                                    (first | rw [c32b0] | (simp only [i64_w, i32_w]; rw [c32b0]) | skip)
                                    by_cases c33 : a0 = 21
                                    · rw [if_pos c33] at H
                                      have c33b0 : (a0 == 21) = true := beq_iff_eq.mpr c33
                                      have c33b1 : (a0 != 21) = false := bne_eq_false_iff_eq.mpr c33
                                      clear c33
                                      have H' := Aside0.mk H
                                      clear H
                                      go_wp2
                                      go_meet
                                      case rel => exact ⟨_, ((a0 == 21)), (by first | rfl | (simp; done) | (simp [*]; done)), H', ⟨by have := HJ1.out; have := HJ9.out; have := HJ15.out; have := HJ26.out; first | omega | exact Nat.le_refl _⟩, by repeat (first | exact Drawn0.refl _ | apply Drawn0.step)⟩
                                    · rw [if_neg c33] at H
                                      have c33b0 : (a0 == 21) = false := beq_eq_false_iff_ne.mpr c33
                                      have c33b1 : (a0 != 21) = true := bne_iff_ne.mpr c33
                                      by_cases c34 : a0 = 22
                                      · rw [if_pos c34] at H
                                        have c34b0 : (a0 == 22) = true := beq_iff_eq.mpr c34
                                        have c34b1 : (a0 != 22) = false := bne_eq_false_iff_eq.mpr c34
                                        clear c34
                                        have H' := Aside0.mk H
                                        clear H
                                        go_wp2
                                        go_meet
                                        case rel => exact ⟨_, ((a0 == 22)), (by first | rfl | (simp; done) | (simp [*]; done)), H', ⟨by have := HJ1.out; have := HJ9.out; have := HJ15.out; have := HJ26.out; first | omega | exact Nat.le_refl _⟩, by repeat (first | exact Drawn0.refl _ | apply Drawn0.step)⟩
                                      · rw [if_neg c34] at H
                                        have c34b0 : (a0 == 22) = false := beq_eq_false_iff_ne.mpr c34
                                        have c34b1 : (a0 != 22) = true := bne_iff_ne.mpr c34
                                        have H' := Aside0.mk H
                                        clear H
                                        go_wp2
                                        go_meet
                                        case rel => exact ⟨_, ((a0 == 23)), (by first | rfl | (simp; done) | (simp [*]; done)), H', ⟨by have := HJ1.out; have := HJ9.out; have := HJ15.out; have := HJ26.out; first | omega | exact Nat.le_refl _⟩, by repeat (first | exact Drawn0.refl _ | apply Drawn0.step)⟩
                                case rest =>
                                  clear HC31
                                  try clear c1
                                  try clear c2
                                  try clear p2
                                  try clear c3
                                  try clear c3b0
                                  try clear c3b1
                                  try clear c4
                                  try clear c4b0
                                  try clear c4b1
                                  try clear c5
                                  try clear c5b0
                                  try clear c5b1
                                  try clear c6
                                  try clear c6b0
                                  try clear c6b1
                                  try clear c7
                                  try clear c7b0
                                  try clear c7b1
                                  try clear c8
                                  try clear c8b0
                                  try clear c8b1
                                  try clear c9
                                  try clear c11
                                  try clear c11b0
                                  try clear c11b1
                                  try clear c12
                                  try clear c13
                                  try clear c13b0
                                  try clear c13b1
                                  try clear c14
                                  try clear c14b0
                                  try clear c14b1
                                  try clear c15
                                  try clear c15b0
                                  try clear c15b1
                                  try clear c17
                                  try clear c17b0
                                  try clear c17b1
                                  try clear c18
                                  try clear c18b0
                                  try clear c18b1
                                  try clear c19
                                  try clear c19b0
                                  try clear c19b1
                                  try clear c20
                                  try clear c20b0
                                  try clear c20b1
                                  try clear c21
                                  try clear c21b0
                                  try clear c21b1
                                  try clear c22
                                  try clear c22b0
                                  try clear c22b1
                                  try clear c23
                                  try clear c23b0
                                  try clear c23b1
                                  try clear c24
                                  try clear c24b0
                                  try clear c24b1
                                  try clear c25
                                  try clear c25b0
                                  try clear c25b1
                                  try clear c26
                                  try clear c28
                                  try clear c28b0
                                  try clear c28b1
                                  try clear c29
                                  try clear c29b0
                                  try clear c29b1
                                  try clear c30
                                  try clear c32
                                  try clear c32b0
                                  try clear c32b1
                                  try clear c33
                                  try clear c33b0
                                  try clear c33b1
                                  try clear c34
                                  try clear c34b0
                                  try clear c34b1
                                  try clear p2
                                  obtain ⟨kq, x37_30, rfl, HA, HJ30, ⟨mc30, rfl⟩⟩ := hcut
                                  cases kq with
                                  | zero => exact absurd HA.out (by simp [instr_effect.j4])
                                  | succ kj30 =>
                                    have H := HA.out
                                    clear HA
                                    simp only [instr_effect.j4] at H
                                    by_cases c35 : x37_30 = true
                                    · subst c35
                                      have H1 : (some ((⟨#[105, 105]⟩ : ByteArray), (⟨#[102]⟩ : ByteArray))) = some (r1, r2) := by rw [if_pos rfl] at H; exact H
                                      clear H
                                      have H := H1
                                      clear H1
                                      simp only [Option.some.injEq, Prod.mk.injEq] at H
                                      obtain ⟨rfl, rfl⟩ := H
                                      go_wp2
                                      go_ret2
                                      exact ⟨by first | rfl | (simp; done) | (simp [*]; done), by repeat (first | exact Drawn0.refl _ | apply Drawn0.step)⟩
                                    · replace c35 := Bool.eq_false_iff.mpr c35
                                      subst c35
                                      have H1 : (if a0 = 24 then (some ((⟨#[102]⟩ : ByteArray), (⟨#[102]⟩ : ByteArray))) else (if a0 = 25 then (instr_effect.j5 kj30 a0 (a0 == 25)) else (instr_effect.j5 kj30 a0 (a0 == 26)))) = some (r1, r2) := by rw [if_neg (show ¬ (false = true) by decide)] at H; exact H
                                      clear H
                                      have H := H1
                                      clear H1
                                      by_cases c36 : a0 = 24
                                      · rw [if_pos c36] at H
                                        have c36b0 : (a0 == 24) = true := beq_iff_eq.mpr c36
                                        have c36b1 : (a0 != 24) = false := bne_eq_false_iff_eq.mpr c36
                                        clear c36
                                        simp only [Option.some.injEq, Prod.mk.injEq] at H
                                        obtain ⟨rfl, rfl⟩ := H
                                        go_wp2
                                        go_ret2
                                        exact ⟨by first | rfl | (simp; done) | (simp [*]; done), by repeat (first | exact Drawn0.refl _ | apply Drawn0.step)⟩
                                      · rw [if_neg c36] at H
                                        have c36b0 : (a0 == 24) = false := beq_eq_false_iff_ne.mpr c36
                                        have c36b1 : (a0 != 24) = true := bne_iff_ne.mpr c36
                                        have HC37 := Aside0.mk H
                                        clear H
                                        go_upto_if 44 with (fail)
                                        go_cut [44] (fun v44 wc => ∃ (kq : Nat) (x44_36 : Bool), v44 = .bool x44_36 ∧ Aside0 (instr_effect.j5 kq a0 x44_36 = some (r1, r2)) ∧ Aside0 (kq ≤ kj30) ∧ Drawn0 w wc)
                                        case first =>
                                          have H := HC37.out
                                          clear HC37
                                          by_cases c38 : a0 = 25
                                          · rw [if_pos c38] at H
                                            have c38b0 : (a0 == 25) = true := beq_iff_eq.mpr c38
                                            have c38b1 : (a0 != 25) = false := bne_eq_false_iff_eq.mpr c38
                                            clear c38
                                            (first | rw [c38b0] | (simp only [i64_w, i32_w]; rw [c38b0]) | skip)
                                            have H' := Aside0.mk H
                                            clear H
                                            go_wp2
                                            go_meet
                                            case rel => exact ⟨_, ((a0 == 25)), (by first | rfl | (simp; done) | (simp [*]; done)), H', ⟨by have := HJ1.out; have := HJ9.out; have := HJ15.out; have := HJ26.out; have := HJ30.out; first | omega | exact Nat.le_refl _⟩, by repeat (first | exact Drawn0.refl _ | apply Drawn0.step)⟩
                                          · rw [if_neg c38] at H
                                            have c38b0 : (a0 == 25) = false := beq_eq_false_iff_ne.mpr c38
                                            have c38b1 : (a0 != 25) = true := bne_iff_ne.mpr c38
                                            (first | rw [c38b0] | (simp only [i64_w, i32_w]; rw [c38b0]) | skip)
                                            have H' := Aside0.mk H
                                            clear H
                                            go_wp2
                                            go_meet
                                            case rel => exact ⟨_, ((a0 == 26)), (by first | rfl | (simp; done) | (simp [*]; done)), H', ⟨by have := HJ1.out; have := HJ9.out; have := HJ15.out; have := HJ26.out; have := HJ30.out; first | omega | exact Nat.le_refl _⟩, by repeat (first | exact Drawn0.refl _ | apply Drawn0.step)⟩
                                        case rest =>
                                          clear HC37
                                          try clear c1
                                          try clear c2
                                          try clear p2
                                          try clear c3
                                          try clear c3b0
                                          try clear c3b1
                                          try clear c4
                                          try clear c4b0
                                          try clear c4b1
                                          try clear c5
                                          try clear c5b0
                                          try clear c5b1
                                          try clear c6
                                          try clear c6b0
                                          try clear c6b1
                                          try clear c7
                                          try clear c7b0
                                          try clear c7b1
                                          try clear c8
                                          try clear c8b0
                                          try clear c8b1
                                          try clear c9
                                          try clear c11
                                          try clear c11b0
                                          try clear c11b1
                                          try clear c12
                                          try clear c13
                                          try clear c13b0
                                          try clear c13b1
                                          try clear c14
                                          try clear c14b0
                                          try clear c14b1
                                          try clear c15
                                          try clear c15b0
                                          try clear c15b1
                                          try clear c17
                                          try clear c17b0
                                          try clear c17b1
                                          try clear c18
                                          try clear c18b0
                                          try clear c18b1
                                          try clear c19
                                          try clear c19b0
                                          try clear c19b1
                                          try clear c20
                                          try clear c20b0
                                          try clear c20b1
                                          try clear c21
                                          try clear c21b0
                                          try clear c21b1
                                          try clear c22
                                          try clear c22b0
                                          try clear c22b1
                                          try clear c23
                                          try clear c23b0
                                          try clear c23b1
                                          try clear c24
                                          try clear c24b0
                                          try clear c24b1
                                          try clear c25
                                          try clear c25b0
                                          try clear c25b1
                                          try clear c26
                                          try clear c28
                                          try clear c28b0
                                          try clear c28b1
                                          try clear c29
                                          try clear c29b0
                                          try clear c29b1
                                          try clear c30
                                          try clear c32
                                          try clear c32b0
                                          try clear c32b1
                                          try clear c33
                                          try clear c33b0
                                          try clear c33b1
                                          try clear c34
                                          try clear c34b0
                                          try clear c34b1
                                          try clear c35
                                          try clear c36
                                          try clear c36b0
                                          try clear c36b1
                                          try clear c38
                                          try clear c38b0
                                          try clear c38b1
                                          try clear p2
                                          obtain ⟨kq, x44_36, rfl, HA, HJ36, ⟨mc36, rfl⟩⟩ := hcut
                                          cases kq with
                                          | zero => exact absurd HA.out (by simp [instr_effect.j5])
                                          | succ kj36 =>
                                            have H := HA.out
                                            clear HA
                                            simp only [instr_effect.j5] at H
                                            by_cases c39 : x44_36 = true
                                            · subst c39
                                              have H1 : (some ((⟨#[102, 102]⟩ : ByteArray), (⟨#[102]⟩ : ByteArray))) = some (r1, r2) := by rw [if_pos rfl] at H; exact H
                                              clear H
                                              have H := H1
                                              clear H1
                                              simp only [Option.some.injEq, Prod.mk.injEq] at H
                                              obtain ⟨rfl, rfl⟩ := H
                                              go_wp2
                                              go_ret2
                                              exact ⟨by first | rfl | (simp; done) | (simp [*]; done), by repeat (first | exact Drawn0.refl _ | apply Drawn0.step)⟩
                                            · replace c39 := Bool.eq_false_iff.mpr c39
                                              subst c39
                                              have H1 : (if a0 = 27 then (some ((⟨#[102]⟩ : ByteArray), (⟨#[105]⟩ : ByteArray))) else (if a0 = 28 then (some ((⟨#[105, 105, 102]⟩ : ByteArray), (⟨#[105]⟩ : ByteArray))) else (if a0 = 30 then (some ((⟨#[102]⟩ : ByteArray), (⟨#[]⟩ : ByteArray))) else (if a0 = 34 then (some ((⟨#[105, 105]⟩ : ByteArray), (⟨#[]⟩ : ByteArray))) else (if a0 = 35 then (some ((⟨#[105]⟩ : ByteArray), (⟨#[102]⟩ : ByteArray))) else (if a0 = 36 then (some ((⟨#[105]⟩ : ByteArray), (⟨#[105, 102]⟩ : ByteArray))) else (some ((⟨#[]⟩ : ByteArray), (⟨#[]⟩ : ByteArray))))))))) = some (r1, r2) := by rw [if_neg (show ¬ (false = true) by decide)] at H; exact H
                                              clear H
                                              have H := H1
                                              clear H1
                                              by_cases c40 : a0 = 27
                                              · rw [if_pos c40] at H
                                                have c40b0 : (a0 == 27) = true := beq_iff_eq.mpr c40
                                                have c40b1 : (a0 != 27) = false := bne_eq_false_iff_eq.mpr c40
                                                clear c40
                                                simp only [Option.some.injEq, Prod.mk.injEq] at H
                                                obtain ⟨rfl, rfl⟩ := H
                                                go_wp2
                                                go_ret2
                                                exact ⟨by first | rfl | (simp; done) | (simp [*]; done), by repeat (first | exact Drawn0.refl _ | apply Drawn0.step)⟩
                                              · rw [if_neg c40] at H
                                                have c40b0 : (a0 == 27) = false := beq_eq_false_iff_ne.mpr c40
                                                have c40b1 : (a0 != 27) = true := bne_iff_ne.mpr c40
                                                by_cases c41 : a0 = 28
                                                · rw [if_pos c41] at H
                                                  have c41b0 : (a0 == 28) = true := beq_iff_eq.mpr c41
                                                  have c41b1 : (a0 != 28) = false := bne_eq_false_iff_eq.mpr c41
                                                  clear c41
                                                  simp only [Option.some.injEq, Prod.mk.injEq] at H
                                                  obtain ⟨rfl, rfl⟩ := H
                                                  go_wp2
                                                  go_ret2
                                                  exact ⟨by first | rfl | (simp; done) | (simp [*]; done), by repeat (first | exact Drawn0.refl _ | apply Drawn0.step)⟩
                                                · rw [if_neg c41] at H
                                                  have c41b0 : (a0 == 28) = false := beq_eq_false_iff_ne.mpr c41
                                                  have c41b1 : (a0 != 28) = true := bne_iff_ne.mpr c41
                                                  by_cases c42 : a0 = 30
                                                  · rw [if_pos c42] at H
                                                    have c42b0 : (a0 == 30) = true := beq_iff_eq.mpr c42
                                                    have c42b1 : (a0 != 30) = false := bne_eq_false_iff_eq.mpr c42
                                                    clear c42
                                                    simp only [Option.some.injEq, Prod.mk.injEq] at H
                                                    obtain ⟨rfl, rfl⟩ := H
                                                    go_wp2
                                                    go_ret2
                                                    exact ⟨by first | rfl | (simp; done) | (simp [*]; done), by repeat (first | exact Drawn0.refl _ | apply Drawn0.step)⟩
                                                  · rw [if_neg c42] at H
                                                    have c42b0 : (a0 == 30) = false := beq_eq_false_iff_ne.mpr c42
                                                    have c42b1 : (a0 != 30) = true := bne_iff_ne.mpr c42
                                                    by_cases c43 : a0 = 34
                                                    · rw [if_pos c43] at H
                                                      have c43b0 : (a0 == 34) = true := beq_iff_eq.mpr c43
                                                      have c43b1 : (a0 != 34) = false := bne_eq_false_iff_eq.mpr c43
                                                      clear c43
                                                      simp only [Option.some.injEq, Prod.mk.injEq] at H
                                                      obtain ⟨rfl, rfl⟩ := H
                                                      go_wp2
                                                      go_ret2
                                                      exact ⟨by first | rfl | (simp; done) | (simp [*]; done), by repeat (first | exact Drawn0.refl _ | apply Drawn0.step)⟩
                                                    · rw [if_neg c43] at H
                                                      have c43b0 : (a0 == 34) = false := beq_eq_false_iff_ne.mpr c43
                                                      have c43b1 : (a0 != 34) = true := bne_iff_ne.mpr c43
                                                      by_cases c44 : a0 = 35
                                                      · rw [if_pos c44] at H
                                                        have c44b0 : (a0 == 35) = true := beq_iff_eq.mpr c44
                                                        have c44b1 : (a0 != 35) = false := bne_eq_false_iff_eq.mpr c44
                                                        clear c44
                                                        simp only [Option.some.injEq, Prod.mk.injEq] at H
                                                        obtain ⟨rfl, rfl⟩ := H
                                                        go_wp2
                                                        go_ret2
                                                        exact ⟨by first | rfl | (simp; done) | (simp [*]; done), by repeat (first | exact Drawn0.refl _ | apply Drawn0.step)⟩
                                                      · rw [if_neg c44] at H
                                                        have c44b0 : (a0 == 35) = false := beq_eq_false_iff_ne.mpr c44
                                                        have c44b1 : (a0 != 35) = true := bne_iff_ne.mpr c44
                                                        by_cases c45 : a0 = 36
                                                        · rw [if_pos c45] at H
                                                          have c45b0 : (a0 == 36) = true := beq_iff_eq.mpr c45
                                                          have c45b1 : (a0 != 36) = false := bne_eq_false_iff_eq.mpr c45
                                                          clear c45
                                                          simp only [Option.some.injEq, Prod.mk.injEq] at H
                                                          obtain ⟨rfl, rfl⟩ := H
                                                          go_wp2
                                                          go_ret2
                                                          exact ⟨by first | rfl | (simp; done) | (simp [*]; done), by repeat (first | exact Drawn0.refl _ | apply Drawn0.step)⟩
                                                        · rw [if_neg c45] at H
                                                          have c45b0 : (a0 == 36) = false := beq_eq_false_iff_ne.mpr c45
                                                          have c45b1 : (a0 != 36) = true := bne_iff_ne.mpr c45
                                                          simp only [Option.some.injEq, Prod.mk.injEq] at H
                                                          obtain ⟨rfl, rfl⟩ := H
                                                          go_wp2
                                                          go_ret2
                                                          exact ⟨by first | rfl | (simp; done) | (simp [*]; done), by repeat (first | exact Drawn0.refl _ | apply Drawn0.step)⟩

end Go.Proofs.Ytndedmkjmahohaa.P
