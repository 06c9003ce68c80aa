/- Ytndedmkjmahohaa: what Go functions come to, and that they do: walks, printed by a program of this session or typed by hand; no statement of the seat stands here. -/
import Derived.Test.YtndedmkjmahohaaP0
namespace Go.Proofs.Ytndedmkjmahohaa.P
open Go.RowKit Go.Proofs.YtndedmkjmahohaaW.PrintWords Go.Proofs.YtndedmkjmahohaaW.PrintLast Go.Proofs.YtndedmkjmahohaaW.PrintMore
attribute [local go_sem] max2_int min2_int max_two min_two max_three min_three max_four min_four   -- for this text's walks alone
set_option linter.unusedVariables false
set_option linter.unusedSimpArgs false

/-! ### pianolaref05_Stack: function 26 -/
mutual
def pianolaref05_Stack.j0 : Nat → Int → Bool → Option (ByteArray × ByteArray)
  | 0, _, _ => none
  | k + 1, x0, x4 => if x4 = true then (some ((⟨#[]⟩ : ByteArray), (⟨#[105]⟩ : ByteArray))) else (if x0 = 4 then (pianolaref05_Stack.j1 k x0 true) else (pianolaref05_Stack.j1 k x0 (x0 == 32)))
def pianolaref05_Stack.j1 : Nat → Int → Bool → Option (ByteArray × ByteArray)
  | 0, _, _ => none
  | k + 1, x0, x27 => if x27 = true then (some ((⟨#[105]⟩ : ByteArray), (⟨#[]⟩ : ByteArray))) else (if x0 = 5 then (some ((⟨#[97]⟩ : ByteArray), (⟨#[]⟩ : ByteArray))) else (if x0 = 6 then (some ((⟨#[97]⟩ : ByteArray), (⟨#[97, 97]⟩ : ByteArray))) else (if x0 = 7 then (some ((⟨#[97, 97]⟩ : ByteArray), (⟨#[97, 97]⟩ : ByteArray))) else (if x0 ≥ 8 then (pianolaref05_Stack.j2 k x0 (decide (x0 ≤ 17))) else (pianolaref05_Stack.j2 k x0 false)))))
def pianolaref05_Stack.j2 : Nat → Int → Bool → Option (ByteArray × ByteArray)
  | 0, _, _ => none
  | k + 1, x0, x43 => if x43 = true then (some ((⟨#[105, 105]⟩ : ByteArray), (⟨#[105]⟩ : ByteArray))) else (if x0 = 18 then (pianolaref05_Stack.j3 k x0 true) else (if x0 = 19 then (pianolaref05_Stack.j3 k x0 true) else (pianolaref05_Stack.j3 k x0 (x0 == 33))))
def pianolaref05_Stack.j3 : Nat → Int → Bool → Option (ByteArray × ByteArray)
  | 0, _, _ => none
  | k + 1, x0, x50 => if x50 = true then (some ((⟨#[105]⟩ : ByteArray), (⟨#[105]⟩ : ByteArray))) else (if x0 ≥ 20 then (pianolaref05_Stack.j4 k x0 (decide (x0 ≤ 23))) else (pianolaref05_Stack.j4 k x0 false))
def pianolaref05_Stack.j4 : Nat → Int → Bool → Option (ByteArray × ByteArray)
  | 0, _, _ => none
  | k + 1, x0, x61 => if x61 = true then (some ((⟨#[105, 105]⟩ : ByteArray), (⟨#[102]⟩ : ByteArray))) else (if x0 = 24 then (some ((⟨#[102]⟩ : ByteArray), (⟨#[102]⟩ : ByteArray))) else (if x0 = 25 then (pianolaref05_Stack.j5 k x0 true) else (pianolaref05_Stack.j5 k x0 (x0 == 26))))
def pianolaref05_Stack.j5 : Nat → Int → Bool → Option (ByteArray × ByteArray)
  | 0, _, _ => none
  | k + 1, x0, x71 => if x71 = true then (some ((⟨#[102, 102]⟩ : ByteArray), (⟨#[102]⟩ : ByteArray))) else (if x0 = 27 then (some ((⟨#[102]⟩ : ByteArray), (⟨#[105]⟩ : ByteArray))) else (if x0 = 28 then (some ((⟨#[105, 105, 102]⟩ : ByteArray), (⟨#[105]⟩ : ByteArray))) else (if x0 = 30 then (some ((⟨#[102]⟩ : ByteArray), (⟨#[]⟩ : ByteArray))) else (if x0 = 34 then (some ((⟨#[105, 105]⟩ : ByteArray), (⟨#[]⟩ : ByteArray))) else (if x0 = 35 then (some ((⟨#[105]⟩ : ByteArray), (⟨#[102]⟩ : ByteArray))) else (if x0 = 36 then (some ((⟨#[105]⟩ : ByteArray), (⟨#[105, 102]⟩ : ByteArray))) else (some ((⟨#[]⟩ : ByteArray), (⟨#[]⟩ : ByteArray)))))))))
end
def pianolaref05_Stack.f (k : Nat) (a0 : Int) : Option (ByteArray × ByteArray) := if a0 = 1 then (pianolaref05_Stack.j0 k a0 true) else (if a0 = 2 then (pianolaref05_Stack.j0 k a0 true) else (if a0 = 3 then (pianolaref05_Stack.j0 k a0 true) else (if a0 = 37 then (pianolaref05_Stack.j0 k a0 true) else (if a0 ≥ 48 then (pianolaref05_Stack.j0 k a0 (decide (a0 ≤ 50))) else (pianolaref05_Stack.j0 k a0 false)))))
theorem pianolaref05_Stack.mono_l : ∀ k, (∀ y0 y1, LeO (pianolaref05_Stack.j0 k y0 y1) (pianolaref05_Stack.j0 (k + 1) y0 y1)) ∧ (∀ y0 y1, LeO (pianolaref05_Stack.j1 k y0 y1) (pianolaref05_Stack.j1 (k + 1) y0 y1)) ∧ (∀ y0 y1, LeO (pianolaref05_Stack.j2 k y0 y1) (pianolaref05_Stack.j2 (k + 1) y0 y1)) ∧ (∀ y0 y1, LeO (pianolaref05_Stack.j3 k y0 y1) (pianolaref05_Stack.j3 (k + 1) y0 y1)) ∧ (∀ y0 y1, LeO (pianolaref05_Stack.j4 k y0 y1) (pianolaref05_Stack.j4 (k + 1) y0 y1)) ∧ (∀ y0 y1, LeO (pianolaref05_Stack.j5 k y0 y1) (pianolaref05_Stack.j5 (k + 1) y0 y1))
  | 0 => ⟨fun _ _ r h => by simp [pianolaref05_Stack.j0] at h, fun _ _ r h => by simp [pianolaref05_Stack.j1] at h, fun _ _ r h => by simp [pianolaref05_Stack.j2] at h, fun _ _ r h => by simp [pianolaref05_Stack.j3] at h, fun _ _ r h => by simp [pianolaref05_Stack.j4] at h, fun _ _ r h => by simp [pianolaref05_Stack.j5] at h⟩
  | k + 1 => by
    obtain ⟨ih0, ih1, ih2, ih3, ih4, ih5⟩ := pianolaref05_Stack.mono_l k
    refine ⟨?_, ?_, ?_, ?_, ?_, ?_⟩
    · intro y0 y1
      unfold pianolaref05_Stack.j0
      repeat' first
      | (with_reducible exact ih0 _ _)
      | (with_reducible exact ih1 _ _)
      | (with_reducible exact ih2 _ _)
      | (with_reducible exact ih3 _ _)
      | (with_reducible exact ih4 _ _)
      | (with_reducible exact ih5 _ _)
      | (with_reducible exact LeO.refl _)
      | (with_reducible exact LeO.none _)
      | (with_reducible refine LeO.ite ?_ ?_)
      | (with_reducible refine LeO.bind ?_ (fun _ => ?_))
      | exact ih0 _ _
      | exact ih1 _ _
      | exact ih2 _ _
      | exact ih3 _ _
      | exact ih4 _ _
      | exact ih5 _ _
      | exact LeO.none _
      | refine LeO.ite ?_ ?_
      | refine LeO.bind ?_ (fun _ => ?_)
    · intro y0 y1
      unfold pianolaref05_Stack.j1
      repeat' first
      | (with_reducible exact ih0 _ _)
      | (with_reducible exact ih1 _ _)
      | (with_reducible exact ih2 _ _)
      | (with_reducible exact ih3 _ _)
      | (with_reducible exact ih4 _ _)
      | (with_reducible exact ih5 _ _)
      | (with_reducible exact LeO.refl _)
      | (with_reducible exact LeO.none _)
      | (with_reducible refine LeO.ite ?_ ?_)
      | (with_reducible refine LeO.bind ?_ (fun _ => ?_))
      | exact ih0 _ _
      | exact ih1 _ _
      | exact ih2 _ _
      | exact ih3 _ _
      | exact ih4 _ _
      | exact ih5 _ _
      | exact LeO.none _
      | refine LeO.ite ?_ ?_
      | refine LeO.bind ?_ (fun _ => ?_)
    · intro y0 y1
      unfold pianolaref05_Stack.j2
      repeat' first
      | (with_reducible exact ih0 _ _)
      | (with_reducible exact ih1 _ _)
      | (with_reducible exact ih2 _ _)
      | (with_reducible exact ih3 _ _)
      | (with_reducible exact ih4 _ _)
      | (with_reducible exact ih5 _ _)
      | (with_reducible exact LeO.refl _)
      | (with_reducible exact LeO.none _)
      | (with_reducible refine LeO.ite ?_ ?_)
      | (with_reducible refine LeO.bind ?_ (fun _ => ?_))
      | exact ih0 _ _
      | exact ih1 _ _
      | exact ih2 _ _
      | exact ih3 _ _
      | exact ih4 _ _
      | exact ih5 _ _
      | exact LeO.none _
      | refine LeO.ite ?_ ?_
      | refine LeO.bind ?_ (fun _ => ?_)
    · intro y0 y1
      unfold pianolaref05_Stack.j3
      repeat' first
      | (with_reducible exact ih0 _ _)
      | (with_reducible exact ih1 _ _)
      | (with_reducible exact ih2 _ _)
      | (with_reducible exact ih3 _ _)
      | (with_reducible exact ih4 _ _)
      | (with_reducible exact ih5 _ _)
      | (with_reducible exact LeO.refl _)
      | (with_reducible exact LeO.none _)
      | (with_reducible refine LeO.ite ?_ ?_)
      | (with_reducible refine LeO.bind ?_ (fun _ => ?_))
      | exact ih0 _ _
      | exact ih1 _ _
      | exact ih2 _ _
      | exact ih3 _ _
      | exact ih4 _ _
      | exact ih5 _ _
      | exact LeO.none _
      | refine LeO.ite ?_ ?_
      | refine LeO.bind ?_ (fun _ => ?_)
    · intro y0 y1
      unfold pianolaref05_Stack.j4
      repeat' first
      | (with_reducible exact ih0 _ _)
      | (with_reducible exact ih1 _ _)
      | (with_reducible exact ih2 _ _)
      | (with_reducible exact ih3 _ _)
      | (with_reducible exact ih4 _ _)
      | (with_reducible exact ih5 _ _)
      | (with_reducible exact LeO.refl _)
      | (with_reducible exact LeO.none _)
      | (with_reducible refine LeO.ite ?_ ?_)
      | (with_reducible refine LeO.bind ?_ (fun _ => ?_))
      | exact ih0 _ _
      | exact ih1 _ _
      | exact ih2 _ _
      | exact ih3 _ _
      | exact ih4 _ _
      | exact ih5 _ _
      | exact LeO.none _
      | refine LeO.ite ?_ ?_
      | refine LeO.bind ?_ (fun _ => ?_)
    · intro y0 y1
      unfold pianolaref05_Stack.j5
      repeat' first
      | (with_reducible exact ih0 _ _)
      | (with_reducible exact ih1 _ _)
      | (with_reducible exact ih2 _ _)
      | (with_reducible exact ih3 _ _)
      | (with_reducible exact ih4 _ _)
      | (with_reducible exact ih5 _ _)
      | (with_reducible exact LeO.refl _)
      | (with_reducible exact LeO.none _)
      | (with_reducible refine LeO.ite ?_ ?_)
      | (with_reducible refine LeO.bind ?_ (fun _ => ?_))
      | exact ih0 _ _
      | exact ih1 _ _
      | exact ih2 _ _
      | exact ih3 _ _
      | exact ih4 _ _
      | exact ih5 _ _
      | exact LeO.none _
      | refine LeO.ite ?_ ?_
      | refine LeO.bind ?_ (fun _ => ?_)
theorem pianolaref05_Stack.mono : ∀ a0 k, LeO (pianolaref05_Stack.f k a0) (pianolaref05_Stack.f (k + 1) a0) := by
  intro a0 k
  obtain ⟨ih0, ih1, ih2, ih3, ih4, ih5⟩ := pianolaref05_Stack.mono_l k
  unfold pianolaref05_Stack.f
  repeat' first
      | (with_reducible exact ih0 _ _)
      | (with_reducible exact ih1 _ _)
      | (with_reducible exact ih2 _ _)
      | (with_reducible exact ih3 _ _)
      | (with_reducible exact ih4 _ _)
      | (with_reducible exact ih5 _ _)
      | (with_reducible exact LeO.refl _)
      | (with_reducible exact LeO.none _)
      | (with_reducible refine LeO.ite ?_ ?_)
      | (with_reducible refine LeO.bind ?_ (fun _ => ?_))
      | exact ih0 _ _
      | exact ih1 _ _
      | exact ih2 _ _
      | exact ih3 _ _
      | exact ih4 _ _
      | exact ih5 _ _
      | exact LeO.none _
      | refine LeO.ite ?_ ?_
      | refine LeO.bind ?_ (fun _ => ?_)
set_option maxHeartbeats 8000000 in
set_option maxRecDepth 100000 in
theorem pianolaref05_Stack.calls (k : Nat) (a0 : Int) (r1 : ByteArray) (r2 : ByteArray) (w : World) (h : pianolaref05_Stack.f k a0 = some (r1, r2)) :
    Calls Try.prog 26 #[.int .i64 a0] w fun e w' => e = .returned (.tuple #[.string r1, .string r2]) ∧ Drawn0 w w' := by
  have H : (if a0 = 1 then (pianolaref05_Stack.j0 k a0 true) else (if a0 = 2 then (pianolaref05_Stack.j0 k a0 true) else (if a0 = 3 then (pianolaref05_Stack.j0 k a0 true) else (if a0 = 37 then (pianolaref05_Stack.j0 k a0 true) else (if a0 ≥ 48 then (pianolaref05_Stack.j0 k a0 (decide (a0 ≤ 50))) else (pianolaref05_Stack.j0 k a0 false)))))) = some (r1, r2) := h
  clear h
  have HC2 := Aside0.mk H
  clear H
  go_enter Try.func26, Try.ntmps26
  go_upto_region 1 with (fail)
  go_cut [4] (fun v4 wc => ∃ (kq : Nat) (x4_1 : Bool), v4 = .bool x4_1 ∧ Aside0 (pianolaref05_Stack.j0 kq a0 x4_1 = some (r1, r2)) ∧ Aside0 (kq ≤ k) ∧ Drawn0 w wc)
  case first =>
    have H := HC2.out
    clear HC2
    by_cases c3 : a0 = 1
    · rw [if_pos c3] at H
      have c3b0 : (a0 == 1) = true := beq_iff_eq.mpr c3
      have c3b1 : (a0 != 1) = false := bne_eq_false_iff_eq.mpr c3
      clear c3
      (first | rw [c3b0] | (simp only [i64_w, i32_w]; rw [c3b0]) | skip)
      have H' := Aside0.mk H
      clear H
      go_wp2
      go_meet
      case rel => exact ⟨_, (true), (by first | rfl | (simp; done) | (simp [*]; done)), H', ⟨by first | omega | exact Nat.le_refl _⟩, by repeat (first | exact Drawn0.refl _ | apply Drawn0.step)⟩
    · rw [if_neg c3] at H
      have c3b0 : (a0 == 1) = false := beq_eq_false_iff_ne.mpr c3
      have c3b1 : (a0 != 1) = true := bne_iff_ne.mpr c3
      (first | rw [c3b0] | (simp only [i64_w, i32_w]; rw [c3b0]) | skip)
      by_cases c4 : a0 = 2
      · rw [if_pos c4] at H
        have c4b0 : (a0 == 2) = true := beq_iff_eq.mpr c4
        have c4b1 : (a0 != 2) = false := bne_eq_false_iff_eq.mpr c4
        clear c4
        have H' := Aside0.mk H
        clear H
        go_wp2
        go_meet
        case rel => exact ⟨_, (true), (by first | rfl | (simp; done) | (simp [*]; done)), H', ⟨by first | omega | exact Nat.le_refl _⟩, by repeat (first | exact Drawn0.refl _ | apply Drawn0.step)⟩
      · rw [if_neg c4] at H
        have c4b0 : (a0 == 2) = false := beq_eq_false_iff_ne.mpr c4
        have c4b1 : (a0 != 2) = true := bne_iff_ne.mpr c4
        by_cases c5 : a0 = 3
        · rw [if_pos c5] at H
          have c5b0 : (a0 == 3) = true := beq_iff_eq.mpr c5
          have c5b1 : (a0 != 3) = false := bne_eq_false_iff_eq.mpr c5
          clear c5
          have H' := Aside0.mk H
          clear H
          go_wp2
          go_meet
          case rel => exact ⟨_, (true), (by first | rfl | (simp; done) | (simp [*]; done)), H', ⟨by first | omega | exact Nat.le_refl _⟩, by repeat (first | exact Drawn0.refl _ | apply Drawn0.step)⟩
        · rw [if_neg c5] at H
          have c5b0 : (a0 == 3) = false := beq_eq_false_iff_ne.mpr c5
          have c5b1 : (a0 != 3) = true := bne_iff_ne.mpr c5
          by_cases c6 : a0 = 37
          · rw [if_pos c6] at H
            have c6b0 : (a0 == 37) = true := beq_iff_eq.mpr c6
            have c6b1 : (a0 != 37) = false := bne_eq_false_iff_eq.mpr c6
            clear c6
            have H' := Aside0.mk H
            clear H
            go_wp2
            go_meet
            case rel => exact ⟨_, (true), (by first | rfl | (simp; done) | (simp [*]; done)), H', ⟨by first | omega | exact Nat.le_refl _⟩, by repeat (first | exact Drawn0.refl _ | apply Drawn0.step)⟩
          · rw [if_neg c6] at H
            have c6b0 : (a0 == 37) = false := beq_eq_false_iff_ne.mpr c6
            have c6b1 : (a0 != 37) = true := bne_iff_ne.mpr c6
            by_cases c7 : a0 ≥ 48
            · rw [if_pos c7] at H
              have c7b0 : decide (48 ≤ a0) = true := decide_eq_true c7
              clear c7
              have H' := Aside0.mk H
              clear H
              go_wp2
              go_meet
              case rel => exact ⟨_, (decide (a0 ≤ 50)), (by first | rfl | (simp; done) | (simp [*]; done)), H', ⟨by first | omega | exact Nat.le_refl _⟩, by repeat (first | exact Drawn0.refl _ | apply Drawn0.step)⟩
            · rw [if_neg c7] at H
              have c7b0 : decide (48 ≤ a0) = false := decide_eq_false c7
              clear c7
              have H' := Aside0.mk H
              clear H
              go_wp2
              go_meet
              case rel => exact ⟨_, (false), (by first | rfl | (simp; done) | (simp [*]; done)), H', ⟨by first | omega | exact Nat.le_refl _⟩, by repeat (first | exact Drawn0.refl _ | apply Drawn0.step)⟩
  case rest =>
    clear HC2
    try clear c2
    try clear p2
    try clear c3
    try clear c3b0
    try clear c3b1
    try clear c4
    try clear c4b0
    try clear c4b1
    try clear c5
    try clear c5b0
    try clear c5b1
    try clear c6
    try clear c6b0
    try clear c6b1
    try clear c7
    try clear c7b0
    obtain ⟨kq, x4_1, rfl, HA, HJ1, ⟨mc1, rfl⟩⟩ := hcut
    cases kq with
    | zero => exact absurd HA.out (by simp [pianolaref05_Stack.j0])
    | succ kj1 =>
      have H := HA.out
      clear HA
      simp only [pianolaref05_Stack.j0] at H
      by_cases c8 : x4_1 = true
      · subst c8
        have H1 : (some ((⟨#[]⟩ : ByteArray), (⟨#[105]⟩ : ByteArray))) = some (r1, r2) := by rw [if_pos rfl] at H; exact H
        clear H
        have H := H1
        clear H1
        simp only [Option.some.injEq, Prod.mk.injEq] at H
        obtain ⟨rfl, rfl⟩ := H
        go_wp2
        go_ret2
        exact ⟨by first | rfl | (simp; done) | (simp [*]; done), by repeat (first | exact Drawn0.refl _ | apply Drawn0.step)⟩
      · replace c8 := Bool.eq_false_iff.mpr c8
        subst c8
        have H1 : (if a0 = 4 then (pianolaref05_Stack.j1 kj1 a0 true) else (pianolaref05_Stack.j1 kj1 a0 (a0 == 32))) = some (r1, r2) := by rw [if_neg (show ¬ (false = true) by decide)] at H; exact H
        clear H
        have H := H1
        clear H1
        have HC9 := Aside0.mk H
        clear H
        go_upto_region 3 with (fail)
        go_cut [27] (fun v27 wc => ∃ (kq : Nat) (x27_8 : Bool), v27 = .bool x27_8 ∧ Aside0 (pianolaref05_Stack.j1 kq a0 x27_8 = some (r1, r2)) ∧ Aside0 (kq ≤ kj1) ∧ Drawn0 w wc)
        case first =>
          have H := HC9.out
          clear HC9
          by_cases c10 : a0 = 4
          · rw [if_pos c10] at H
            have c10b0 : (a0 == 4) = true := beq_iff_eq.mpr c10
            have c10b1 : (a0 != 4) = false := bne_eq_false_iff_eq.mpr c10
            clear c10
            (first | rw [c10b0] | (simp only [i64_w, i32_w]; rw [c10b0]) | skip)
            have H' := Aside0.mk H
            clear H
            go_wp2
            go_meet
            case rel => exact ⟨_, (true), (by first | rfl | (simp; done) | (simp [*]; done)), H', ⟨by have := HJ1.out; first | omega | exact Nat.le_refl _⟩, by repeat (first | exact Drawn0.refl _ | apply Drawn0.step)⟩
          · rw [if_neg c10] at H
            have c10b0 : (a0 == 4) = false := beq_eq_false_iff_ne.mpr c10
            have c10b1 : (a0 != 4) = true := bne_iff_ne.mpr c10
            (first | rw [c10b0] | (simp only [i64_w, i32_w]; rw [c10b0]) | skip)
            have H' := Aside0.mk H
            clear H
            go_wp2
            go_meet
            case rel => exact ⟨_, ((a0 == 32)), (by first | rfl | (simp; done) | (simp [*]; done)), H', ⟨by have := HJ1.out; first | omega | exact Nat.le_refl _⟩, by repeat (first | exact Drawn0.refl _ | apply Drawn0.step)⟩
        case rest =>
          clear HC9
          try clear c1
          try clear c2
          try clear p2
          try clear c3
          try clear c3b0
          try clear c3b1
          try clear c4
          try clear c4b0
          try clear c4b1
          try clear c5
          try clear c5b0
          try clear c5b1
          try clear c6
          try clear c6b0
          try clear c6b1
          try clear c7
          try clear c7b0
          try clear c8
          try clear c10
          try clear c10b0
          try clear c10b1
          try clear p2
          obtain ⟨kq, x27_8, rfl, HA, HJ8, ⟨mc8, rfl⟩⟩ := hcut
          cases kq with
          | zero => exact absurd HA.out (by simp [pianolaref05_Stack.j1])
          | succ kj8 =>
            have H := HA.out
            clear HA
            simp only [pianolaref05_Stack.j1] at H
            by_cases c11 : x27_8 = true
            · subst c11
              have H1 : (some ((⟨#[105]⟩ : ByteArray), (⟨#[]⟩ : ByteArray))) = some (r1, r2) := by rw [if_pos rfl] at H; exact H
              clear H
              have H := H1
              clear H1
              simp only [Option.some.injEq, Prod.mk.injEq] at H
              obtain ⟨rfl, rfl⟩ := H
              go_wp2
              go_ret2
              exact ⟨by first | rfl | (simp; done) | (simp [*]; done), by repeat (first | exact Drawn0.refl _ | apply Drawn0.step)⟩
            · replace c11 := Bool.eq_false_iff.mpr c11
              subst c11
              have H1 : (if a0 = 5 then (some ((⟨#[97]⟩ : ByteArray), (⟨#[]⟩ : ByteArray))) else (if a0 = 6 then (some ((⟨#[97]⟩ : ByteArray), (⟨#[97, 97]⟩ : ByteArray))) else (if a0 = 7 then (some ((⟨#[97, 97]⟩ : ByteArray), (⟨#[97, 97]⟩ : ByteArray))) else (if a0 ≥ 8 then (pianolaref05_Stack.j2 kj8 a0 (decide (a0 ≤ 17))) else (pianolaref05_Stack.j2 kj8 a0 false))))) = some (r1, r2) := by rw [if_neg (show ¬ (false = true) by decide)] at H; exact H
              clear H
              have H := H1
              clear H1
              by_cases c12 : a0 = 5
              · rw [if_pos c12] at H
                have c12b0 : (a0 == 5) = true := beq_iff_eq.mpr c12
                have c12b1 : (a0 != 5) = false := bne_eq_false_iff_eq.mpr c12
                clear c12
                simp only [Option.some.injEq, Prod.mk.injEq] at H
                obtain ⟨rfl, rfl⟩ := H
                go_wp2
                go_ret2
                exact ⟨by first | rfl | (simp; done) | (simp [*]; done), by repeat (first | exact Drawn0.refl _ | apply Drawn0.step)⟩
              · rw [if_neg c12] at H
                have c12b0 : (a0 == 5) = false := beq_eq_false_iff_ne.mpr c12
                have c12b1 : (a0 != 5) = true := bne_iff_ne.mpr c12
                by_cases c13 : a0 = 6
                · rw [if_pos c13] at H
                  have c13b0 : (a0 == 6) = true := beq_iff_eq.mpr c13
                  have c13b1 : (a0 != 6) = false := bne_eq_false_iff_eq.mpr c13
                  clear c13
                  simp only [Option.some.injEq, Prod.mk.injEq] at H
                  obtain ⟨rfl, rfl⟩ := H
                  go_wp2
                  go_ret2
                  exact ⟨by first | rfl | (simp; done) | (simp [*]; done), by repeat (first | exact Drawn0.refl _ | apply Drawn0.step)⟩
                · rw [if_neg c13] at H
                  have c13b0 : (a0 == 6) = false := beq_eq_false_iff_ne.mpr c13
                  have c13b1 : (a0 != 6) = true := bne_iff_ne.mpr c13
                  by_cases c14 : a0 = 7
                  · rw [if_pos c14] at H
                    have c14b0 : (a0 == 7) = true := beq_iff_eq.mpr c14
                    have c14b1 : (a0 != 7) = false := bne_eq_false_iff_eq.mpr c14
                    clear c14
                    simp only [Option.some.injEq, Prod.mk.injEq] at H
                    obtain ⟨rfl, rfl⟩ := H
                    go_wp2
                    go_ret2
                    exact ⟨by first | rfl | (simp; done) | (simp [*]; done), by repeat (first | exact Drawn0.refl _ | apply Drawn0.step)⟩
                  · rw [if_neg c14] at H
                    have c14b0 : (a0 == 7) = false := beq_eq_false_iff_ne.mpr c14
                    have c14b1 : (a0 != 7) = true := bne_iff_ne.mpr c14
                    have HC15 := Aside0.mk H
                    clear H
                    go_upto_region 11 with (fail)
                    go_cut [43] (fun v43 wc => ∃ (kq : Nat) (x43_14 : Bool), v43 = .bool x43_14 ∧ Aside0 (pianolaref05_Stack.j2 kq a0 x43_14 = some (r1, r2)) ∧ Aside0 (kq ≤ kj8) ∧ Drawn0 w wc)
                    case first =>
                      have H := HC15.out
                      clear HC15
                      by_cases c16 : a0 ≥ 8
                      · rw [if_pos c16] at H
                        have c16b0 : decide (8 ≤ a0) = true := decide_eq_true c16
                        clear c16
                        (first | rw [c16b0] | (simp only [i64_w, i32_w]; rw [c16b0]) | skip)
                        have H' := Aside0.mk H
                        clear H
                        go_wp2
                        go_meet
                        case rel => exact ⟨_, (decide (a0 ≤ 17)), (by first | rfl | (simp; done) | (simp [*]; done)), H', ⟨by have := HJ1.out; have := HJ8.out; first | omega | exact Nat.le_refl _⟩, by repeat (first | exact Drawn0.refl _ | apply Drawn0.step)⟩
                      · rw [if_neg c16] at H
                        have c16b0 : decide (8 ≤ a0) = false := decide_eq_false c16
                        clear c16
                        (first | rw [c16b0] | (simp only [i64_w, i32_w]; rw [c16b0]) | skip)
                        have H' := Aside0.mk H
                        clear H
                        go_wp2
                        go_meet
                        case rel => exact ⟨_, (false), (by first | rfl | (simp; done) | (simp [*]; done)), H', ⟨by have := HJ1.out; have := HJ8.out; first | omega | exact Nat.le_refl _⟩, by repeat (first | exact Drawn0.refl _ | apply Drawn0.step)⟩
                    case rest =>
                      clear HC15
                      try clear c1
                      try clear c2
                      try clear p2
                      try clear c3
                      try clear c3b0
                      try clear c3b1
                      try clear c4
                      try clear c4b0
                      try clear c4b1
                      try clear c5
                      try clear c5b0
                      try clear c5b1
                      try clear c6
                      try clear c6b0
                      try clear c6b1
                      try clear c7
                      try clear c7b0
                      try clear c8
                      try clear c10
                      try clear c10b0
                      try clear c10b1
                      try clear c11
                      try clear c12
                      try clear c12b0
                      try clear c12b1
                      try clear c13
                      try clear c13b0
                      try clear c13b1
                      try clear c14
                      try clear c14b0
                      try clear c14b1
                      try clear c16
                      try clear c16b0
                      try clear p2
                      obtain ⟨kq, x43_14, rfl, HA, HJ14, ⟨mc14, rfl⟩⟩ := hcut
                      cases kq with
                      | zero => exact absurd HA.out (by simp [pianolaref05_Stack.j2])
                      | succ kj14 =>
                        have H := HA.out
                        clear HA
                        simp only [pianolaref05_Stack.j2] at H
                        by_cases c17 : x43_14 = true
                        · subst c17
                          have H1 : (some ((⟨#[105, 105]⟩ : ByteArray), (⟨#[105]⟩ : ByteArray))) = some (r1, r2) := by rw [if_pos rfl] at H; exact H
                          clear H
                          have H := H1
                          clear H1
                          simp only [Option.some.injEq, Prod.mk.injEq] at H
                          obtain ⟨rfl, rfl⟩ := H
                          go_wp2
                          go_ret2
                          exact ⟨by first | rfl | (simp; done) | (simp [*]; done), by repeat (first | exact Drawn0.refl _ | apply Drawn0.step)⟩
                        · replace c17 := Bool.eq_false_iff.mpr c17
                          subst c17
                          have H1 : (if a0 = 18 then (pianolaref05_Stack.j3 kj14 a0 true) else (if a0 = 19 then (pianolaref05_Stack.j3 kj14 a0 true) else (pianolaref05_Stack.j3 kj14 a0 (a0 == 33)))) = some (r1, r2) := by rw [if_neg (show ¬ (false = true) by decide)] at H; exact H
                          clear H
                          have H := H1
                          clear H1
                          have HC18 := Aside0.mk H
                          clear H
                          go_upto_region 13 with (fail)
                          go_cut [50] (fun v50 wc => ∃ (kq : Nat) (x50_17 : Bool), v50 = .bool x50_17 ∧ Aside0 (pianolaref05_Stack.j3 kq a0 x50_17 = some (r1, r2)) ∧ Aside0 (kq ≤ kj14) ∧ Drawn0 w wc)
                          case first =>
                            have H := HC18.out
                            clear HC18
                            by_cases c19 : a0 = 18
                            · rw [if_pos c19] at H
                              have c19b0 : (a0 == 18) = true := beq_iff_eq.mpr c19
                              have c19b1 : (a0 != 18) = false := bne_eq_false_iff_eq.mpr c19
                              clear c19
                              (first | rw [c19b0] | (simp only [i64_w, i32_w]; rw [c19b0]) | skip)
                              have H' := Aside0.mk H
                              clear H
                              go_wp2
                              go_meet
                              case rel => exact ⟨_, (true), (by first | rfl | (simp; done) | (simp [*]; done)), H', ⟨by have := HJ1.out; have := HJ8.out; have := HJ14.out; first | omega | exact Nat.le_refl _⟩, by repeat (first | exact Drawn0.refl _ | apply Drawn0.step)⟩
                            · rw [if_neg c19] at H
                              have c19b0 : (a0 == 18) = false := beq_eq_false_iff_ne.mpr c19
                              have c19b1 : (a0 != 18) = true := bne_iff_ne.mpr c19
                              (first | rw [c19b0] | (simp only [i64_w, i32_w]; rw [c19b0]) | skip)
                              by_cases c20 : a0 = 19
                              · rw [if_pos c20] at H
                                have c20b0 : (a0 == 19) = true := beq_iff_eq.mpr c20
                                have c20b1 : (a0 != 19) = false := bne_eq_false_iff_eq.mpr c20
                                clear c20
                                have H' := Aside0.mk H
                                clear H
                                go_wp2
                                go_meet
                                case rel => exact ⟨_, (true), (by first | rfl | (simp; done) | (simp [*]; done)), H', ⟨by have := HJ1.out; have := HJ8.out; have := HJ14.out; first | omega | exact Nat.le_refl _⟩, by repeat (first | exact Drawn0.refl _ | apply Drawn0.step)⟩
                              · rw [if_neg c20] at H
                                have c20b0 : (a0 == 19) = false := beq_eq_false_iff_ne.mpr c20
                                have c20b1 : (a0 != 19) = true := bne_iff_ne.mpr c20
                                have H' := Aside0.mk H
                                clear H
                                go_wp2
                                go_meet
                                case rel => exact ⟨_, ((a0 == 33)), (by first | rfl | (simp; done) | (simp [*]; done)), H', ⟨by have := HJ1.out; have := HJ8.out; have := HJ14.out; first | omega | exact Nat.le_refl _⟩, by repeat (first | exact Drawn0.refl _ | apply Drawn0.step)⟩
                          case rest =>
                            clear HC18
                            try clear c1
                            try clear c2
                            try clear p2
                            try clear c3
                            try clear c3b0
                            try clear c3b1
                            try clear c4
                            try clear c4b0
                            try clear c4b1
                            try clear c5
                            try clear c5b0
                            try clear c5b1
                            try clear c6
                            try clear c6b0
                            try clear c6b1
                            try clear c7
                            try clear c7b0
                            try clear c8
                            try clear c10
                            try clear c10b0
                            try clear c10b1
                            try clear c11
                            try clear c12
                            try clear c12b0
                            try clear c12b1
                            try clear c13
                            try clear c13b0
                            try clear c13b1
                            try clear c14
                            try clear c14b0
                            try clear c14b1
                            try clear c16
                            try clear c16b0
                            try clear c17
                            try clear c19
                            try clear c19b0
                            try clear c19b1
                            try clear c20
                            try clear c20b0
                            try clear c20b1
                            try clear p2
                            obtain ⟨kq, x50_17, rfl, HA, HJ17, ⟨mc17, rfl⟩⟩ := hcut
                            cases kq with
                            | zero => exact absurd HA.out (by simp [pianolaref05_Stack.j3])
                            | succ kj17 =>
                              have H := HA.out
                              clear HA
                              simp only [pianolaref05_Stack.j3] at H
                              by_cases c21 : x50_17 = true
                              · subst c21
                                have H1 : (some ((⟨#[105]⟩ : ByteArray), (⟨#[105]⟩ : ByteArray))) = some (r1, r2) := by rw [if_pos rfl] at H; exact H
                                clear H
                                have H := H1
                                clear H1
                                simp only [Option.some.injEq, Prod.mk.injEq] at H
                                obtain ⟨rfl, rfl⟩ := H
                                go_wp2
                                go_ret2
                                exact ⟨by first | rfl | (simp; done) | (simp [*]; done), by repeat (first | exact Drawn0.refl _ | apply Drawn0.step)⟩
                              · replace c21 := Bool.eq_false_iff.mpr c21
                                subst c21
                                have H1 : (if a0 ≥ 20 then (pianolaref05_Stack.j4 kj17 a0 (decide (a0 ≤ 23))) else (pianolaref05_Stack.j4 kj17 a0 false)) = some (r1, r2) := by rw [if_neg (show ¬ (false = true) by decide)] at H; exact H
                                clear H
                                have H := H1
                                clear H1
                                have HC22 := Aside0.mk H
                                clear H
                                go_upto_region 15 with (fail)
                                go_cut [61] (fun v61 wc => ∃ (kq : Nat) (x61_21 : Bool), v61 = .bool x61_21 ∧ Aside0 (pianolaref05_Stack.j4 kq a0 x61_21 = some (r1, r2)) ∧ Aside0 (kq ≤ kj17) ∧ Drawn0 w wc)
                                case first =>
                                  have H := HC22.out
                                  clear HC22
                                  by_cases c23 : a0 ≥ 20
                                  · rw [if_pos c23] at H
                                    have c23b0 : decide (20 ≤ a0) = true := decide_eq_true c23
                                    clear c23
                                    (first | rw [c23b0] | (simp only [i64_w, i32_w]; rw [c23b0]) | skip)
                                    have H' := Aside0.mk H
                                    clear H
                                    go_wp2
                                    go_meet
                                    case rel => exact ⟨_, (decide (a0 ≤ 23)), (by first | rfl | (simp; done) | (simp [*]; done)), H', ⟨by have := HJ1.out; have := HJ8.out; have := HJ14.out; have := HJ17.out; first | omega | exact Nat.le_refl _⟩, by repeat (first | exact Drawn0.refl _ | apply Drawn0.step)⟩
                                  · rw [if_neg c23] at H
                                    have c23b0 : decide (20 ≤ a0) = false := decide_eq_false c23
                                    clear c23
                                    (first | rw [c23b0] | (simp only [i64_w, i32_w]; rw [c23b0]) | skip)
                                    have H' := Aside0.mk H
                                    clear H
                                    go_wp2
                                    go_meet
                                    case rel => exact ⟨_, (false), (by first | rfl | (simp; done) | (simp [*]; done)), H', ⟨by have := HJ1.out; have := HJ8.out; have := HJ14.out; have := HJ17.out; first | omega | exact Nat.le_refl _⟩, by repeat (first | exact Drawn0.refl _ | apply Drawn0.step)⟩
                                case rest =>
                                  clear HC22
                                  try clear c1
                                  try clear c2
                                  try clear p2
                                  try clear c3
                                  try clear c3b0
                                  try clear c3b1
                                  try clear c4
                                  try clear c4b0
                                  try clear c4b1
                                  try clear c5
                                  try clear c5b0
                                  try clear c5b1
                                  try clear c6
                                  try clear c6b0
                                  try clear c6b1
                                  try clear c7
                                  try clear c7b0
                                  try clear c8
                                  try clear c10
                                  try clear c10b0
                                  try clear c10b1
                                  try clear c11
                                  try clear c12
                                  try clear c12b0
                                  try clear c12b1
                                  try clear c13
                                  try clear c13b0
                                  try clear c13b1
                                  try clear c14
                                  try clear c14b0
                                  try clear c14b1
                                  try clear c16
                                  try clear c16b0
                                  try clear c17
                                  try clear c19
                                  try clear c19b0
                                  try clear c19b1
                                  try clear c20
                                  try clear c20b0
                                  try clear c20b1
                                  try clear c21
                                  try clear c23
                                  try clear c23b0
                                  try clear p2
                                  obtain ⟨kq, x61_21, rfl, HA, HJ21, ⟨mc21, rfl⟩⟩ := hcut
                                  cases kq with
                                  | zero => exact absurd HA.out (by simp [pianolaref05_Stack.j4])
                                  | succ kj21 =>
                                    have H := HA.out
                                    clear HA
                                    simp only [pianolaref05_Stack.j4] at H
                                    by_cases c24 : x61_21 = true
                                    · subst c24
                                      have H1 : (some ((⟨#[105, 105]⟩ : ByteArray), (⟨#[102]⟩ : ByteArray))) = some (r1, r2) := by rw [if_pos rfl] at H; exact H
                                      clear H
                                      have H := H1
                                      clear H1
                                      simp only [Option.some.injEq, Prod.mk.injEq] at H
                                      obtain ⟨rfl, rfl⟩ := H
                                      go_wp2
                                      go_ret2
                                      exact ⟨by first | rfl | (simp; done) | (simp [*]; done), by repeat (first | exact Drawn0.refl _ | apply Drawn0.step)⟩
                                    · replace c24 := Bool.eq_false_iff.mpr c24
                                      subst c24
                                      have H1 : (if a0 = 24 then (some ((⟨#[102]⟩ : ByteArray), (⟨#[102]⟩ : ByteArray))) else (if a0 = 25 then (pianolaref05_Stack.j5 kj21 a0 true) else (pianolaref05_Stack.j5 kj21 a0 (a0 == 26)))) = some (r1, r2) := by rw [if_neg (show ¬ (false = true) by decide)] at H; exact H
                                      clear H
                                      have H := H1
                                      clear H1
                                      by_cases c25 : a0 = 24
                                      · rw [if_pos c25] at H
                                        have c25b0 : (a0 == 24) = true := beq_iff_eq.mpr c25
                                        have c25b1 : (a0 != 24) = false := bne_eq_false_iff_eq.mpr c25
                                        clear c25
                                        simp only [Option.some.injEq, Prod.mk.injEq] at H
                                        obtain ⟨rfl, rfl⟩ := H
                                        go_wp2
                                        go_ret2
                                        exact ⟨by first | rfl | (simp; done) | (simp [*]; done), by repeat (first | exact Drawn0.refl _ | apply Drawn0.step)⟩
                                      · rw [if_neg c25] at H
                                        have c25b0 : (a0 == 24) = false := beq_eq_false_iff_ne.mpr c25
                                        have c25b1 : (a0 != 24) = true := bne_iff_ne.mpr c25
                                        have HC26 := Aside0.mk H
                                        clear H
                                        go_upto_region 19 with (fail)
                                        go_cut [71] (fun v71 wc => ∃ (kq : Nat) (x71_25 : Bool), v71 = .bool x71_25 ∧ Aside0 (pianolaref05_Stack.j5 kq a0 x71_25 = some (r1, r2)) ∧ Aside0 (kq ≤ kj21) ∧ Drawn0 w wc)
                                        case first =>
                                          have H := HC26.out
                                          clear HC26
                                          by_cases c27 : a0 = 25
                                          · rw [if_pos c27] at H
                                            have c27b0 : (a0 == 25) = true := beq_iff_eq.mpr c27
                                            have c27b1 : (a0 != 25) = false := bne_eq_false_iff_eq.mpr c27
                                            clear c27
                                            (first | rw [c27b0] | (simp only [i64_w, i32_w]; rw [c27b0]) | skip)
                                            have H' := Aside0.mk H
                                            clear H
                                            go_wp2
                                            go_meet
                                            case rel => exact ⟨_, (true), (by first | rfl | (simp; done) | (simp [*]; done)), H', ⟨by have := HJ1.out; have := HJ8.out; have := HJ14.out; have := HJ17.out; have := HJ21.out; first | omega | exact Nat.le_refl _⟩, by repeat (first | exact Drawn0.refl _ | apply Drawn0.step)⟩
                                          · rw [if_neg c27] at H
                                            have c27b0 : (a0 == 25) = false := beq_eq_false_iff_ne.mpr c27
                                            have c27b1 : (a0 != 25) = true := bne_iff_ne.mpr c27
                                            (first | rw [c27b0] | (simp only [i64_w, i32_w]; rw [c27b0]) | skip)
                                            have H' := Aside0.mk H
                                            clear H
                                            go_wp2
                                            go_meet
                                            case rel => exact ⟨_, ((a0 == 26)), (by first | rfl | (simp; done) | (simp [*]; done)), H', ⟨by have := HJ1.out; have := HJ8.out; have := HJ14.out; have := HJ17.out; have := HJ21.out; first | omega | exact Nat.le_refl _⟩, by repeat (first | exact Drawn0.refl _ | apply Drawn0.step)⟩
                                        case rest =>
                                          clear HC26
                                          try clear c1
                                          try clear c2
                                          try clear p2
                                          try clear c3
                                          try clear c3b0
                                          try clear c3b1
                                          try clear c4
                                          try clear c4b0
                                          try clear c4b1
                                          try clear c5
                                          try clear c5b0
                                          try clear c5b1
                                          try clear c6
                                          try clear c6b0
                                          try clear c6b1
                                          try clear c7
                                          try clear c7b0
                                          try clear c8
                                          try clear c10
                                          try clear c10b0
                                          try clear c10b1
                                          try clear c11
                                          try clear c12
                                          try clear c12b0
                                          try clear c12b1
                                          try clear c13
                                          try clear c13b0
                                          try clear c13b1
                                          try clear c14
                                          try clear c14b0
                                          try clear c14b1
                                          try clear c16
                                          try clear c16b0
                                          try clear c17
                                          try clear c19
                                          try clear c19b0
                                          try clear c19b1
                                          try clear c20
                                          try clear c20b0
                                          try clear c20b1
                                          try clear c21
                                          try clear c23
                                          try clear c23b0
                                          try clear c24
                                          try clear c25
                                          try clear c25b0
                                          try clear c25b1
                                          try clear c26
                                          try clear c27
                                          try clear c27b0
                                          try clear c27b1
                                          try clear p2
                                          obtain ⟨kq, x71_25, rfl, HA, HJ25, ⟨mc25, rfl⟩⟩ := hcut
                                          cases kq with
                                          | zero => exact absurd HA.out (by simp [pianolaref05_Stack.j5])
                                          | succ kj25 =>
                                            have H := HA.out
                                            clear HA
                                            simp only [pianolaref05_Stack.j5] at H
                                            by_cases c28 : x71_25 = true
                                            · subst c28
                                              have H1 : (some ((⟨#[102, 102]⟩ : ByteArray), (⟨#[102]⟩ : ByteArray))) = some (r1, r2) := by rw [if_pos rfl] at H; exact H
                                              clear H
                                              have H := H1
                                              clear H1
                                              simp only [Option.some.injEq, Prod.mk.injEq] at H
                                              obtain ⟨rfl, rfl⟩ := H
                                              go_wp2
                                              go_ret2
                                              exact ⟨by first | rfl | (simp; done) | (simp [*]; done), by repeat (first | exact Drawn0.refl _ | apply Drawn0.step)⟩
                                            · replace c28 := Bool.eq_false_iff.mpr c28
                                              subst c28
                                              have H1 : (if a0 = 27 then (some ((⟨#[102]⟩ : ByteArray), (⟨#[105]⟩ : ByteArray))) else (if a0 = 28 then (some ((⟨#[105, 105, 102]⟩ : ByteArray), (⟨#[105]⟩ : ByteArray))) else (if a0 = 30 then (some ((⟨#[102]⟩ : ByteArray), (⟨#[]⟩ : ByteArray))) else (if a0 = 34 then (some ((⟨#[105, 105]⟩ : ByteArray), (⟨#[]⟩ : ByteArray))) else (if a0 = 35 then (some ((⟨#[105]⟩ : ByteArray), (⟨#[102]⟩ : ByteArray))) else (if a0 = 36 then (some ((⟨#[105]⟩ : ByteArray), (⟨#[105, 102]⟩ : ByteArray))) else (some ((⟨#[]⟩ : ByteArray), (⟨#[]⟩ : ByteArray))))))))) = some (r1, r2) := by rw [if_neg (show ¬ (false = true) by decide)] at H; exact H
                                              clear H
                                              have H := H1
                                              clear H1
                                              by_cases c29 : a0 = 27
                                              · rw [if_pos c29] at H
                                                have c29b0 : (a0 == 27) = true := beq_iff_eq.mpr c29
                                                have c29b1 : (a0 != 27) = false := bne_eq_false_iff_eq.mpr c29
                                                clear c29
                                                simp only [Option.some.injEq, Prod.mk.injEq] at H
                                                obtain ⟨rfl, rfl⟩ := H
                                                go_wp2
                                                go_ret2
                                                exact ⟨by first | rfl | (simp; done) | (simp [*]; done), by repeat (first | exact Drawn0.refl _ | apply Drawn0.step)⟩
                                              · rw [if_neg c29] at H
                                                have c29b0 : (a0 == 27) = false := beq_eq_false_iff_ne.mpr c29
                                                have c29b1 : (a0 != 27) = true := bne_iff_ne.mpr c29
                                                by_cases c30 : a0 = 28
                                                · rw [if_pos c30] at H
                                                  have c30b0 : (a0 == 28) = true := beq_iff_eq.mpr c30
                                                  have c30b1 : (a0 != 28) = false := bne_eq_false_iff_eq.mpr c30
                                                  clear c30
                                                  simp only [Option.some.injEq, Prod.mk.injEq] at H
                                                  obtain ⟨rfl, rfl⟩ := H
                                                  go_wp2
                                                  go_ret2
                                                  exact ⟨by first | rfl | (simp; done) | (simp [*]; done), by repeat (first | exact Drawn0.refl _ | apply Drawn0.step)⟩
                                                · rw [if_neg c30] at H
                                                  have c30b0 : (a0 == 28) = false := beq_eq_false_iff_ne.mpr c30
                                                  have c30b1 : (a0 != 28) = true := bne_iff_ne.mpr c30
                                                  by_cases c31 : a0 = 30
                                                  · rw [if_pos c31] at H
                                                    have c31b0 : (a0 == 30) = true := beq_iff_eq.mpr c31
                                                    have c31b1 : (a0 != 30) = false := bne_eq_false_iff_eq.mpr c31
                                                    clear c31
                                                    simp only [Option.some.injEq, Prod.mk.injEq] at H
                                                    obtain ⟨rfl, rfl⟩ := H
                                                    go_wp2
                                                    go_ret2
                                                    exact ⟨by first | rfl | (simp; done) | (simp [*]; done), by repeat (first | exact Drawn0.refl _ | apply Drawn0.step)⟩
                                                  · rw [if_neg c31] at H
                                                    have c31b0 : (a0 == 30) = false := beq_eq_false_iff_ne.mpr c31
                                                    have c31b1 : (a0 != 30) = true := bne_iff_ne.mpr c31
                                                    by_cases c32 : a0 = 34
                                                    · rw [if_pos c32] at H
                                                      have c32b0 : (a0 == 34) = true := beq_iff_eq.mpr c32
                                                      have c32b1 : (a0 != 34) = false := bne_eq_false_iff_eq.mpr c32
                                                      clear c32
                                                      simp only [Option.some.injEq, Prod.mk.injEq] at H
                                                      obtain ⟨rfl, rfl⟩ := H
                                                      go_wp2
                                                      go_ret2
                                                      exact ⟨by first | rfl | (simp; done) | (simp [*]; done), by repeat (first | exact Drawn0.refl _ | apply Drawn0.step)⟩
                                                    · rw [if_neg c32] at H
                                                      have c32b0 : (a0 == 34) = false := beq_eq_false_iff_ne.mpr c32
                                                      have c32b1 : (a0 != 34) = true := bne_iff_ne.mpr c32
                                                      by_cases c33 : a0 = 35
                                                      · rw [if_pos c33] at H
                                                        have c33b0 : (a0 == 35) = true := beq_iff_eq.mpr c33
                                                        have c33b1 : (a0 != 35) = false := bne_eq_false_iff_eq.mpr c33
                                                        clear c33
                                                        simp only [Option.some.injEq, Prod.mk.injEq] at H
                                                        obtain ⟨rfl, rfl⟩ := H
                                                        go_wp2
                                                        go_ret2
                                                        exact ⟨by first | rfl | (simp; done) | (simp [*]; done), by repeat (first | exact Drawn0.refl _ | apply Drawn0.step)⟩
                                                      · rw [if_neg c33] at H
                                                        have c33b0 : (a0 == 35) = false := beq_eq_false_iff_ne.mpr c33
                                                        have c33b1 : (a0 != 35) = true := bne_iff_ne.mpr c33
                                                        by_cases c34 : a0 = 36
                                                        · rw [if_pos c34] at H
                                                          have c34b0 : (a0 == 36) = true := beq_iff_eq.mpr c34
                                                          have c34b1 : (a0 != 36) = false := bne_eq_false_iff_eq.mpr c34
                                                          clear c34
                                                          simp only [Option.some.injEq, Prod.mk.injEq] at H
                                                          obtain ⟨rfl, rfl⟩ := H
                                                          go_wp2
                                                          go_ret2
                                                          exact ⟨by first | rfl | (simp; done) | (simp [*]; done), by repeat (first | exact Drawn0.refl _ | apply Drawn0.step)⟩
                                                        · rw [if_neg c34] at H
                                                          have c34b0 : (a0 == 36) = false := beq_eq_false_iff_ne.mpr c34
                                                          have c34b1 : (a0 != 36) = true := bne_iff_ne.mpr c34
                                                          simp only [Option.some.injEq, Prod.mk.injEq] at H
                                                          obtain ⟨rfl, rfl⟩ := H
                                                          go_wp2
                                                          go_ret2
                                                          exact ⟨by first | rfl | (simp; done) | (simp [*]; done), by repeat (first | exact Drawn0.refl _ | apply Drawn0.step)⟩

end Go.Proofs.Ytndedmkjmahohaa.P
