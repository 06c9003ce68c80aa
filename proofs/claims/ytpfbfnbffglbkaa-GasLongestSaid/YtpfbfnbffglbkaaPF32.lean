/- Ytpfbfnbffglbkaa: what Go functions come to, and that they do: walks, printed by a program of this session or typed by hand; no statement of the seat stands here. -/
import Derived.Test.YtpfbfnbffglbkaaP0
import Derived.Test.YtpfbfnbffglbkaaPF19
import Derived.Test.YtpfbfnbffglbkaaPF48
namespace Go.Proofs.Ytpfbfnbffglbkaa.P
open Go.RowKit Go.Proofs.YtpfbfnbffglbkaaW.PrintWords Go.Proofs.YtpfbfnbffglbkaaW.PrintLast Go.Proofs.YtpfbfnbffglbkaaW.PrintMore
attribute [local go_sem] max2_int min2_int max_two min_two max_three min_three max_four min_four   -- for this text's walks alone
set_option linter.unusedVariables false
set_option linter.unusedSimpArgs false

/-! ### pianolaref10_Longest: function 32 -/
mutual
def pianolaref10_Longest.j0 : Nat → List (S30) → List Int → Bool → Option (Int × Bool)
  | 0, _, _, _ => none
  | k + 1, x0, x1, x27 => if x27 = true then (some (0, false)) else (pianolaref10_Longest.l0 k x0 x1 0)
def pianolaref10_Longest.l0 : Nat → List (S30) → List Int → Int → Option (Int × Bool)
  | 0, _, _, _ => none
  | k + 1, x0, x1, x6 => if x6 < (x1.length : Int) then (if 0 ≤ x6 then (if (rd x1 x6) < 0 then (some (0, false)) else (pianolaref10_Longest.l0 k x0 x1 (wrap64 (x6 + 1)))) else (none)) else ((pianolaref08_Walk.f x0 (-1)).bind fun bt451 => (if 0 ≤ (x0.length : Int) then (if ((x0.length : Int) : Int).toNat ≤ 35184372088832 then ((some (List.replicate ((x0.length : Int) : Int).toNat 0 : List Int)).bind fun y457 => (if ((x0.length : Int) : Int).toNat ≤ 281474976710656 then ((some (List.replicate ((x0.length : Int) : Int).toNat false : List Bool)).bind fun y460 => (if 0 < (x1.length : Int) then (if 0 < (y457.length : Int) then (if 0 < (y460.length : Int) then (if (rd x1 0) > 4611686018427387904 then (some (0, false)) else (pianolaref10_Longest.l1 k x0 x1 bt451.1 (y457.set (0 : Int).toNat (rd x1 0)) (y460.set (0 : Int).toNat true) (rd x1 0) 0)) else (none)) else (none)) else (none))) else (none))) else (none)) else (none)))
def pianolaref10_Longest.l1 : Nat → List (S30) → List Int → List Bool → List Int → List Bool → Int → Int → Option (Int × Bool)
  | 0, _, _, _, _, _, _, _ => none
  | k + 1, x0, x1, x7, x9, x10, x11, x12 => if x12 ≤ (x0.length : Int) then (pianolaref10_Longest.l2 k x0 x1 x7 x9 x10 x11 x12 false 0) else ((pianolaref10_back.f k x0).bind fun t468 => (if t468 = true then (some (0, false)) else (some (x11, true))))
def pianolaref10_Longest.l2 : Nat → List (S30) → List Int → List Bool → List Int → List Bool → Int → Int → Bool → Int → Option (Int × Bool)
  | 0, _, _, _, _, _, _, _, _, _ => none
  | k + 1, x0, x1, x7, x9, x10, x11, x12, x13, x14 => if x14 < (x0.length : Int) then (pianolaref10_Longest.l3 k x0 x1 x7 x9 x10 x11 x12 x13 x14 0) else (if x13 = true then (pianolaref10_Longest.l1 k x0 x1 x7 x9 x10 x11 (wrap64 (x12 + 1))) else ((pianolaref10_back.f k x0).bind fun t469 => (if t469 = true then (some (0, false)) else (some (x11, true)))))
def pianolaref10_Longest.l3 : Nat → List (S30) → List Int → List Bool → List Int → List Bool → Int → Int → Bool → Int → Int → Option (Int × Bool)
  | 0, _, _, _, _, _, _, _, _, _, _ => none
  | k + 1, x0, x1, x7, x9, x10, x11, x12, x13, x14, x15 => if 0 ≤ x14 then (if x14 < (x0.length : Int) then (if x15 < (((rd_T30 x0 x14).f2).length : Int) then (if x14 < (x10.length : Int) then (pianolaref10_Longest.j5 k x0 x1 x7 x9 x10 x11 x12 x13 x14 x15 (rdOf false x10 x14)) else (none)) else (pianolaref10_Longest.j5 k x0 x1 x7 x9 x10 x11 x12 x13 x14 x15 false)) else (none)) else (none)
def pianolaref10_Longest.j5 : Nat → List (S30) → List Int → List Bool → List Int → List Bool → Int → Int → Bool → Int → Int → Bool → Option (Int × Bool)
  | 0, _, _, _, _, _, _, _, _, _, _, _ => none
  | k + 1, x0, x1, x7, x9, x10, x11, x12, x13, x14, x15, x89 => if x89 = true then (if 0 ≤ x14 then (if x14 < (x0.length : Int) then (if 0 ≤ x15 then (if x15 < (((rd_T30 x0 x14).f2).length : Int) then (if (rd ((rd_T30 x0 x14).f2) x15) < 0 then (pianolaref10_Longest.j6 k x0 x1 x7 x9 x10 x11 x12 x13 x14 x15 (rd ((rd_T30 x0 x14).f2) x15) true) else (if (rd ((rd_T30 x0 x14).f2) x15) ≥ (x0.length : Int) then (pianolaref10_Longest.j6 k x0 x1 x7 x9 x10 x11 x12 x13 x14 x15 (rd ((rd_T30 x0 x14).f2) x15) true) else (if 0 ≤ (rd ((rd_T30 x0 x14).f2) x15) then (if (rd ((rd_T30 x0 x14).f2) x15) < (x7.length : Int) then (pianolaref10_Longest.j6 k x0 x1 x7 x9 x10 x11 x12 x13 x14 x15 (rd ((rd_T30 x0 x14).f2) x15) (!(rdOf false x7 (rd ((rd_T30 x0 x14).f2) x15)))) else (none)) else (none)))) else (none)) else (none)) else (none)) else (none)) else (pianolaref10_Longest.l2 k x0 x1 x7 x9 x10 x11 x12 x13 (wrap64 (x14 + 1)))
def pianolaref10_Longest.j6 : Nat → List (S30) → List Int → List Bool → List Int → List Bool → Int → Int → Bool → Int → Int → Int → Bool → Option (Int × Bool)
  | 0, _, _, _, _, _, _, _, _, _, _, _, _ => none
  | k + 1, x0, x1, x7, x9, x10, x11, x12, x13, x14, x15, x16, x114 => if x114 = true then (pianolaref10_Longest.l3 k x0 x1 x7 x9 x10 x11 x12 x13 x14 (wrap64 (x15 + 1))) else (if 0 ≤ x16 then (if x16 < (x1.length : Int) then (if 0 ≤ x14 then (if x14 < (x9.length : Int) then (if (rd x1 x16) > (wrap64 (4611686018427387904 - (rd x9 x14))) then (some (0, false)) else (if x16 < (x10.length : Int) then (if rdOf false x10 x16 = true then (if x16 < (x9.length : Int) then (pianolaref10_Longest.j7 k x0 x1 x7 x9 x10 x11 x12 x13 x14 x15 x16 (wrap64 ((rd x9 x14) + (rd x1 x16))) (decide ((wrap64 ((rd x9 x14) + (rd x1 x16))) > (rd x9 x16)))) else (none)) else (pianolaref10_Longest.j7 k x0 x1 x7 x9 x10 x11 x12 x13 x14 x15 x16 (wrap64 ((rd x9 x14) + (rd x1 x16))) true)) else (none))) else (none)) else (none)) else (none)) else (none))
def pianolaref10_Longest.j7 : Nat → List (S30) → List Int → List Bool → List Int → List Bool → Int → Int → Bool → Int → Int → Int → Int → Bool → Option (Int × Bool)
  | 0, _, _, _, _, _, _, _, _, _, _, _, _, _ => none
  | k + 1, x0, x1, x7, x9, x10, x11, x12, x13, x14, x15, x16, x17, x146 => if x146 = true then (if 0 ≤ x16 then (if x16 < (x9.length : Int) then ((some (x9.set (x16 : Int).toNat x17 : List Int)).bind fun y481 => (if x16 < (x10.length : Int) then ((some (x10.set (x16 : Int).toNat true : List Bool)).bind fun y482 => (if x17 > x11 then (pianolaref10_Longest.l3 k x0 x1 x7 y481 y482 x17 x12 true x14 (wrap64 (x15 + 1))) else (pianolaref10_Longest.l3 k x0 x1 x7 y481 y482 x11 x12 true x14 (wrap64 (x15 + 1))))) else (none))) else (none)) else (none)) else (pianolaref10_Longest.l3 k x0 x1 x7 x9 x10 x11 x12 x13 x14 (wrap64 (x15 + 1)))
end
def pianolaref10_Longest.f (k : Nat) (l0 : List (S30)) (l1 : List Int) : Option (Int × Bool) := if (l0.length : Int) = 0 then (pianolaref10_Longest.j0 k l0 l1 true) else (pianolaref10_Longest.j0 k l0 l1 ((l1.length : Int) != (l0.length : Int)))
theorem pianolaref10_Longest.mono_l : ∀ k, (∀ y0 y1 y2, LeO (pianolaref10_Longest.j0 k y0 y1 y2) (pianolaref10_Longest.j0 (k + 1) y0 y1 y2)) ∧ (∀ y0 y1 y2, LeO (pianolaref10_Longest.l0 k y0 y1 y2) (pianolaref10_Longest.l0 (k + 1) y0 y1 y2)) ∧ (∀ y0 y1 y2 y3 y4 y5 y6, LeO (pianolaref10_Longest.l1 k y0 y1 y2 y3 y4 y5 y6) (pianolaref10_Longest.l1 (k + 1) y0 y1 y2 y3 y4 y5 y6)) ∧ (∀ y0 y1 y2 y3 y4 y5 y6 y7 y8, LeO (pianolaref10_Longest.l2 k y0 y1 y2 y3 y4 y5 y6 y7 y8) (pianolaref10_Longest.l2 (k + 1) y0 y1 y2 y3 y4 y5 y6 y7 y8)) ∧ (∀ y0 y1 y2 y3 y4 y5 y6 y7 y8 y9, LeO (pianolaref10_Longest.l3 k y0 y1 y2 y3 y4 y5 y6 y7 y8 y9) (pianolaref10_Longest.l3 (k + 1) y0 y1 y2 y3 y4 y5 y6 y7 y8 y9)) ∧ (∀ y0 y1 y2 y3 y4 y5 y6 y7 y8 y9 y10, LeO (pianolaref10_Longest.j5 k y0 y1 y2 y3 y4 y5 y6 y7 y8 y9 y10) (pianolaref10_Longest.j5 (k + 1) y0 y1 y2 y3 y4 y5 y6 y7 y8 y9 y10)) ∧ (∀ y0 y1 y2 y3 y4 y5 y6 y7 y8 y9 y10 y11, LeO (pianolaref10_Longest.j6 k y0 y1 y2 y3 y4 y5 y6 y7 y8 y9 y10 y11) (pianolaref10_Longest.j6 (k + 1) y0 y1 y2 y3 y4 y5 y6 y7 y8 y9 y10 y11)) ∧ (∀ y0 y1 y2 y3 y4 y5 y6 y7 y8 y9 y10 y11 y12, LeO (pianolaref10_Longest.j7 k y0 y1 y2 y3 y4 y5 y6 y7 y8 y9 y10 y11 y12) (pianolaref10_Longest.j7 (k + 1) y0 y1 y2 y3 y4 y5 y6 y7 y8 y9 y10 y11 y12))
  | 0 => ⟨fun _ _ _ r h => by simp [pianolaref10_Longest.j0] at h, fun _ _ _ r h => by simp [pianolaref10_Longest.l0] at h, fun _ _ _ _ _ _ _ r h => by simp [pianolaref10_Longest.l1] at h, fun _ _ _ _ _ _ _ _ _ r h => by simp [pianolaref10_Longest.l2] at h, fun _ _ _ _ _ _ _ _ _ _ r h => by simp [pianolaref10_Longest.l3] at h, fun _ _ _ _ _ _ _ _ _ _ _ r h => by simp [pianolaref10_Longest.j5] at h, fun _ _ _ _ _ _ _ _ _ _ _ _ r h => by simp [pianolaref10_Longest.j6] at h, fun _ _ _ _ _ _ _ _ _ _ _ _ _ r h => by simp [pianolaref10_Longest.j7] at h⟩
  | k + 1 => by
    obtain ⟨ih0, ih1, ih2, ih3, ih4, ih5, ih6, ih7⟩ := pianolaref10_Longest.mono_l k
    refine ⟨?_, ?_, ?_, ?_, ?_, ?_, ?_, ?_⟩
    · intro y0 y1 y2
      unfold pianolaref10_Longest.j0
      repeat' first
      | (with_reducible exact ih0 _ _ _)
      | (with_reducible exact ih1 _ _ _)
      | (with_reducible exact ih2 _ _ _ _ _ _ _)
      | (with_reducible exact ih3 _ _ _ _ _ _ _ _ _)
      | (with_reducible exact ih4 _ _ _ _ _ _ _ _ _ _)
      | (with_reducible exact ih5 _ _ _ _ _ _ _ _ _ _ _)
      | (with_reducible exact ih6 _ _ _ _ _ _ _ _ _ _ _ _)
      | (with_reducible exact ih7 _ _ _ _ _ _ _ _ _ _ _ _ _)
      | (with_reducible exact pianolaref10_back.mono _ _)
      | (with_reducible exact LeO.refl _)
      | (with_reducible exact LeO.none _)
      | (with_reducible refine LeO.ite ?_ ?_)
      | (with_reducible refine LeO.bind ?_ (fun _ => ?_))
      | exact ih0 _ _ _
      | exact ih1 _ _ _
      | exact ih2 _ _ _ _ _ _ _
      | exact ih3 _ _ _ _ _ _ _ _ _
      | exact ih4 _ _ _ _ _ _ _ _ _ _
      | exact ih5 _ _ _ _ _ _ _ _ _ _ _
      | exact ih6 _ _ _ _ _ _ _ _ _ _ _ _
      | exact ih7 _ _ _ _ _ _ _ _ _ _ _ _ _
      | exact pianolaref10_back.mono _ _
      | exact LeO.none _
      | refine LeO.ite ?_ ?_
      | refine LeO.bind ?_ (fun _ => ?_)
    · intro y0 y1 y2
      unfold pianolaref10_Longest.l0
      repeat' first
      | (with_reducible exact ih0 _ _ _)
      | (with_reducible exact ih1 _ _ _)
      | (with_reducible exact ih2 _ _ _ _ _ _ _)
      | (with_reducible exact ih3 _ _ _ _ _ _ _ _ _)
      | (with_reducible exact ih4 _ _ _ _ _ _ _ _ _ _)
      | (with_reducible exact ih5 _ _ _ _ _ _ _ _ _ _ _)
      | (with_reducible exact ih6 _ _ _ _ _ _ _ _ _ _ _ _)
      | (with_reducible exact ih7 _ _ _ _ _ _ _ _ _ _ _ _ _)
      | (with_reducible exact pianolaref10_back.mono _ _)
      | (with_reducible exact LeO.refl _)
      | (with_reducible exact LeO.none _)
      | (with_reducible refine LeO.ite ?_ ?_)
      | (with_reducible refine LeO.bind ?_ (fun _ => ?_))
      | exact ih0 _ _ _
      | exact ih1 _ _ _
      | exact ih2 _ _ _ _ _ _ _
      | exact ih3 _ _ _ _ _ _ _ _ _
      | exact ih4 _ _ _ _ _ _ _ _ _ _
      | exact ih5 _ _ _ _ _ _ _ _ _ _ _
      | exact ih6 _ _ _ _ _ _ _ _ _ _ _ _
      | exact ih7 _ _ _ _ _ _ _ _ _ _ _ _ _
      | exact pianolaref10_back.mono _ _
      | exact LeO.none _
      | refine LeO.ite ?_ ?_
      | refine LeO.bind ?_ (fun _ => ?_)
    · intro y0 y1 y2 y3 y4 y5 y6
      unfold pianolaref10_Longest.l1
      repeat' first
      | (with_reducible exact ih0 _ _ _)
      | (with_reducible exact ih1 _ _ _)
      | (with_reducible exact ih2 _ _ _ _ _ _ _)
      | (with_reducible exact ih3 _ _ _ _ _ _ _ _ _)
      | (with_reducible exact ih4 _ _ _ _ _ _ _ _ _ _)
      | (with_reducible exact ih5 _ _ _ _ _ _ _ _ _ _ _)
      | (with_reducible exact ih6 _ _ _ _ _ _ _ _ _ _ _ _)
      | (with_reducible exact ih7 _ _ _ _ _ _ _ _ _ _ _ _ _)
      | (with_reducible exact pianolaref10_back.mono _ _)
      | (with_reducible exact LeO.refl _)
      | (with_reducible exact LeO.none _)
      | (with_reducible refine LeO.ite ?_ ?_)
      | (with_reducible refine LeO.bind ?_ (fun _ => ?_))
      | exact ih0 _ _ _
      | exact ih1 _ _ _
      | exact ih2 _ _ _ _ _ _ _
      | exact ih3 _ _ _ _ _ _ _ _ _
      | exact ih4 _ _ _ _ _ _ _ _ _ _
      | exact ih5 _ _ _ _ _ _ _ _ _ _ _
      | exact ih6 _ _ _ _ _ _ _ _ _ _ _ _
      | exact ih7 _ _ _ _ _ _ _ _ _ _ _ _ _
      | exact pianolaref10_back.mono _ _
      | exact LeO.none _
      | refine LeO.ite ?_ ?_
      | refine LeO.bind ?_ (fun _ => ?_)
    · intro y0 y1 y2 y3 y4 y5 y6 y7 y8
      unfold pianolaref10_Longest.l2
      repeat' first
      | (with_reducible exact ih0 _ _ _)
      | (with_reducible exact ih1 _ _ _)
      | (with_reducible exact ih2 _ _ _ _ _ _ _)
      | (with_reducible exact ih3 _ _ _ _ _ _ _ _ _)
      | (with_reducible exact ih4 _ _ _ _ _ _ _ _ _ _)
      | (with_reducible exact ih5 _ _ _ _ _ _ _ _ _ _ _)
      | (with_reducible exact ih6 _ _ _ _ _ _ _ _ _ _ _ _)
      | (with_reducible exact ih7 _ _ _ _ _ _ _ _ _ _ _ _ _)
      | (with_reducible exact pianolaref10_back.mono _ _)
      | (with_reducible exact LeO.refl _)
      | (with_reducible exact LeO.none _)
      | (with_reducible refine LeO.ite ?_ ?_)
      | (with_reducible refine LeO.bind ?_ (fun _ => ?_))
      | exact ih0 _ _ _
      | exact ih1 _ _ _
      | exact ih2 _ _ _ _ _ _ _
      | exact ih3 _ _ _ _ _ _ _ _ _
      | exact ih4 _ _ _ _ _ _ _ _ _ _
      | exact ih5 _ _ _ _ _ _ _ _ _ _ _
      | exact ih6 _ _ _ _ _ _ _ _ _ _ _ _
      | exact ih7 _ _ _ _ _ _ _ _ _ _ _ _ _
      | exact pianolaref10_back.mono _ _
      | exact LeO.none _
      | refine LeO.ite ?_ ?_
      | refine LeO.bind ?_ (fun _ => ?_)
    · intro y0 y1 y2 y3 y4 y5 y6 y7 y8 y9
      unfold pianolaref10_Longest.l3
      repeat' first
      | (with_reducible exact ih0 _ _ _)
      | (with_reducible exact ih1 _ _ _)
      | (with_reducible exact ih2 _ _ _ _ _ _ _)
      | (with_reducible exact ih3 _ _ _ _ _ _ _ _ _)
      | (with_reducible exact ih4 _ _ _ _ _ _ _ _ _ _)
      | (with_reducible exact ih5 _ _ _ _ _ _ _ _ _ _ _)
      | (with_reducible exact ih6 _ _ _ _ _ _ _ _ _ _ _ _)
      | (with_reducible exact ih7 _ _ _ _ _ _ _ _ _ _ _ _ _)
      | (with_reducible exact pianolaref10_back.mono _ _)
      | (with_reducible exact LeO.refl _)
      | (with_reducible exact LeO.none _)
      | (with_reducible refine LeO.ite ?_ ?_)
      | (with_reducible refine LeO.bind ?_ (fun _ => ?_))
      | exact ih0 _ _ _
      | exact ih1 _ _ _
      | exact ih2 _ _ _ _ _ _ _
      | exact ih3 _ _ _ _ _ _ _ _ _
      | exact ih4 _ _ _ _ _ _ _ _ _ _
      | exact ih5 _ _ _ _ _ _ _ _ _ _ _
      | exact ih6 _ _ _ _ _ _ _ _ _ _ _ _
      | exact ih7 _ _ _ _ _ _ _ _ _ _ _ _ _
      | exact pianolaref10_back.mono _ _
      | exact LeO.none _
      | refine LeO.ite ?_ ?_
      | refine LeO.bind ?_ (fun _ => ?_)
    · intro y0 y1 y2 y3 y4 y5 y6 y7 y8 y9 y10
      unfold pianolaref10_Longest.j5
      repeat' first
      | (with_reducible exact ih0 _ _ _)
      | (with_reducible exact ih1 _ _ _)
      | (with_reducible exact ih2 _ _ _ _ _ _ _)
      | (with_reducible exact ih3 _ _ _ _ _ _ _ _ _)
      | (with_reducible exact ih4 _ _ _ _ _ _ _ _ _ _)
      | (with_reducible exact ih5 _ _ _ _ _ _ _ _ _ _ _)
      | (with_reducible exact ih6 _ _ _ _ _ _ _ _ _ _ _ _)
      | (with_reducible exact ih7 _ _ _ _ _ _ _ _ _ _ _ _ _)
      | (with_reducible exact pianolaref10_back.mono _ _)
      | (with_reducible exact LeO.refl _)
      | (with_reducible exact LeO.none _)
      | (with_reducible refine LeO.ite ?_ ?_)
      | (with_reducible refine LeO.bind ?_ (fun _ => ?_))
      | exact ih0 _ _ _
      | exact ih1 _ _ _
      | exact ih2 _ _ _ _ _ _ _
      | exact ih3 _ _ _ _ _ _ _ _ _
      | exact ih4 _ _ _ _ _ _ _ _ _ _
      | exact ih5 _ _ _ _ _ _ _ _ _ _ _
      | exact ih6 _ _ _ _ _ _ _ _ _ _ _ _
      | exact ih7 _ _ _ _ _ _ _ _ _ _ _ _ _
      | exact pianolaref10_back.mono _ _
      | exact LeO.none _
      | refine LeO.ite ?_ ?_
      | refine LeO.bind ?_ (fun _ => ?_)
    · intro y0 y1 y2 y3 y4 y5 y6 y7 y8 y9 y10 y11
      unfold pianolaref10_Longest.j6
      repeat' first
      | (with_reducible exact ih0 _ _ _)
      | (with_reducible exact ih1 _ _ _)
      | (with_reducible exact ih2 _ _ _ _ _ _ _)
      | (with_reducible exact ih3 _ _ _ _ _ _ _ _ _)
      | (with_reducible exact ih4 _ _ _ _ _ _ _ _ _ _)
      | (with_reducible exact ih5 _ _ _ _ _ _ _ _ _ _ _)
      | (with_reducible exact ih6 _ _ _ _ _ _ _ _ _ _ _ _)
      | (with_reducible exact ih7 _ _ _ _ _ _ _ _ _ _ _ _ _)
      | (with_reducible exact pianolaref10_back.mono _ _)
      | (with_reducible exact LeO.refl _)
      | (with_reducible exact LeO.none _)
      | (with_reducible refine LeO.ite ?_ ?_)
      | (with_reducible refine LeO.bind ?_ (fun _ => ?_))
      | exact ih0 _ _ _
      | exact ih1 _ _ _
      | exact ih2 _ _ _ _ _ _ _
      | exact ih3 _ _ _ _ _ _ _ _ _
      | exact ih4 _ _ _ _ _ _ _ _ _ _
      | exact ih5 _ _ _ _ _ _ _ _ _ _ _
      | exact ih6 _ _ _ _ _ _ _ _ _ _ _ _
      | exact ih7 _ _ _ _ _ _ _ _ _ _ _ _ _
      | exact pianolaref10_back.mono _ _
      | exact LeO.none _
      | refine LeO.ite ?_ ?_
      | refine LeO.bind ?_ (fun _ => ?_)
    · intro y0 y1 y2 y3 y4 y5 y6 y7 y8 y9 y10 y11 y12
      unfold pianolaref10_Longest.j7
      repeat' first
      | (with_reducible exact ih0 _ _ _)
      | (with_reducible exact ih1 _ _ _)
      | (with_reducible exact ih2 _ _ _ _ _ _ _)
      | (with_reducible exact ih3 _ _ _ _ _ _ _ _ _)
      | (with_reducible exact ih4 _ _ _ _ _ _ _ _ _ _)
      | (with_reducible exact ih5 _ _ _ _ _ _ _ _ _ _ _)
      | (with_reducible exact ih6 _ _ _ _ _ _ _ _ _ _ _ _)
      | (with_reducible exact ih7 _ _ _ _ _ _ _ _ _ _ _ _ _)
      | (with_reducible exact pianolaref10_back.mono _ _)
      | (with_reducible exact LeO.refl _)
      | (with_reducible exact LeO.none _)
      | (with_reducible refine LeO.ite ?_ ?_)
      | (with_reducible refine LeO.bind ?_ (fun _ => ?_))
      | exact ih0 _ _ _
      | exact ih1 _ _ _
      | exact ih2 _ _ _ _ _ _ _
      | exact ih3 _ _ _ _ _ _ _ _ _
      | exact ih4 _ _ _ _ _ _ _ _ _ _
      | exact ih5 _ _ _ _ _ _ _ _ _ _ _
      | exact ih6 _ _ _ _ _ _ _ _ _ _ _ _
      | exact ih7 _ _ _ _ _ _ _ _ _ _ _ _ _
      | exact pianolaref10_back.mono _ _
      | exact LeO.none _
      | refine LeO.ite ?_ ?_
      | refine LeO.bind ?_ (fun _ => ?_)
theorem pianolaref10_Longest.mono : ∀ a0 a1 k, LeO (pianolaref10_Longest.f k a0 a1) (pianolaref10_Longest.f (k + 1) a0 a1) := by
  intro a0 a1 k
  obtain ⟨ih0, ih1, ih2, ih3, ih4, ih5, ih6, ih7⟩ := pianolaref10_Longest.mono_l k
  unfold pianolaref10_Longest.f
  repeat' first
      | (with_reducible exact ih0 _ _ _)
      | (with_reducible exact ih1 _ _ _)
      | (with_reducible exact ih2 _ _ _ _ _ _ _)
      | (with_reducible exact ih3 _ _ _ _ _ _ _ _ _)
      | (with_reducible exact ih4 _ _ _ _ _ _ _ _ _ _)
      | (with_reducible exact ih5 _ _ _ _ _ _ _ _ _ _ _)
      | (with_reducible exact ih6 _ _ _ _ _ _ _ _ _ _ _ _)
      | (with_reducible exact ih7 _ _ _ _ _ _ _ _ _ _ _ _ _)
      | (with_reducible exact pianolaref10_back.mono _ _)
      | (with_reducible exact LeO.refl _)
      | (with_reducible exact LeO.none _)
      | (with_reducible refine LeO.ite ?_ ?_)
      | (with_reducible refine LeO.bind ?_ (fun _ => ?_))
      | exact ih0 _ _ _
      | exact ih1 _ _ _
      | exact ih2 _ _ _ _ _ _ _
      | exact ih3 _ _ _ _ _ _ _ _ _
      | exact ih4 _ _ _ _ _ _ _ _ _ _
      | exact ih5 _ _ _ _ _ _ _ _ _ _ _
      | exact ih6 _ _ _ _ _ _ _ _ _ _ _ _
      | exact ih7 _ _ _ _ _ _ _ _ _ _ _ _ _
      | exact pianolaref10_back.mono _ _
      | exact LeO.none _
      | refine LeO.ite ?_ ?_
      | refine LeO.bind ?_ (fun _ => ?_)
set_option maxHeartbeats 8000000 in
set_option maxRecDepth 100000 in
theorem pianolaref10_Longest.calls (k : Nat) (A0 : Option Addr) (c0 : Nat) (l0 : List (S30)) (A1 : Option Addr) (c1 : Nat) (l1 : List Int) (r1 : Int) (r2 : Bool) (w : World) (hr0 : Kd.C k30 w A0 l0.length l0) (hc0 : l0.length ≤ c0) (hr1 : Kd.C (Kd.int .i64) w A1 l1.length l1) (hc1 : l1.length ≤ c1) (h : pianolaref10_Longest.f k l0 l1 = some (r1, r2)) :
  Calls Try.prog 32 #[.slice A0 l0.length c0, .slice A1 l1.length c1] w fun e w' => e = .returned (.tuple #[.int .i64 r1, .bool r2]) ∧ Below w.heap.size w w' := by
 have HR0 := Aside0.mk hr0
 have HC0 := Aside0.mk hc0
 clear hr0 hc0
 have HR1 := Aside0.mk hr1
 have HC1 := Aside0.mk hc1
 clear hr1 hc1
 have HB := Aside0.mk (Below.refl w.heap.size w)
 have H : (if (l0.length : Int) = 0 then (pianolaref10_Longest.j0 k l0 l1 true) else (pianolaref10_Longest.j0 k l0 l1 ((l1.length : Int) != (l0.length : Int)))) = some (r1, r2) := h
 clear h
 have HC3 := Aside0.mk H
 clear H
 go_enter Try.func32, Try.ntmps32
 go_upto_region 1 with (fail)
 repeat (go_quiet (fail); go_upto_region 1 with (fail))
 go_cut [27] (fun v27 wc => ∃ (kq : Nat) (x27_2 : Bool), v27 = .bool x27_2 ∧ Aside0 (pianolaref10_Longest.j0 kq l0 l1 x27_2 = some (r1, r2)) ∧ Aside0 (kq ≤ k) ∧ Aside0 (Below w.heap.size w wc))
 case first =>
  have H := HC3.out
  clear HC3
  by_cases c4 : (l0.length : Int) = 0
  ·rw [if_pos c4] at H
   have c4b0 : ((l0.length : Int) == 0) = true := beq_iff_eq.mpr c4
   have c4b1 : ((l0.length : Int) != 0) = false := bne_eq_false_iff_eq.mpr c4
   clear c4
   (first | rw [c4b0] | (simp only [i64_w, i32_w]; rw [c4b0]) | skip)
   have H' := Aside0.mk H
   clear H
   go_wp2
   repeat (go_quiet (fail); try go_wp2)
   go_meet
   case rel => exact ⟨_, (true), (by first | rfl | (simp; done) | (simp [*]; done)), H', ⟨by first | omega | exact Nat.le_refl _⟩, ⟨by repeat (first | (with_reducible first | exact HB.out | apply below_alloc | apply pw_below_drewN | apply below_drew1) | exact HB.out)⟩⟩
  ·rw [if_neg c4] at H
   have c4b0 : ((l0.length : Int) == 0) = false := beq_eq_false_iff_ne.mpr c4
   have c4b1 : ((l0.length : Int) != 0) = true := bne_iff_ne.mpr c4
   have c4b2 : ¬ (l0 = []) := fun h_ => c4 (by rw [h_]; rfl)
   (first | rw [c4b0] | (simp only [i64_w, i32_w]; rw [c4b0]) | skip)
   have H' := Aside0.mk H
   clear H
   go_wp2
   repeat (go_quiet (fail); try go_wp2)
   go_meet
   case rel => exact ⟨_, (((l1.length : Int) != (l0.length : Int))), (by first | rfl | (simp; done) | (simp [*]; done)), H', ⟨by first | omega | exact Nat.le_refl _⟩, ⟨by repeat (first | (with_reducible first | exact HB.out | apply below_alloc | apply pw_below_drewN | apply below_drew1) | exact HB.out)⟩⟩
 case rest =>
  clear HC3
  try clear c1
  try clear p2
  try clear c3
  try clear c4
  try clear c4b0
  try clear c4b1
  try clear c4b2
  obtain ⟨kq, x27_2, rfl, HA, HJ2, HB⟩ := hcut
  cases kq with
  | zero => exact absurd HA.out (by simp [pianolaref10_Longest.j0])
  | succ kj2 =>
   have H := HA.out
   clear HA
   simp only [pianolaref10_Longest.j0] at H
   by_cases c5 : x27_2 = true
   ·subst c5
    have H1 : (some (0, false)) = some (r1, r2) := by rw [if_pos rfl] at H; exact H
    clear H
    have H := H1
    clear H1
    simp only [Option.some.injEq, Prod.mk.injEq] at H
    obtain ⟨rfl, rfl⟩ := H
    go_wp2
    repeat (go_quiet (fail); try go_wp2)
    go_ret2
    exact ⟨by first | rfl | (simp [errW_none, errW_some] <;> rfl) | (simp [*, errW_none, errW_some] <;> rfl), by repeat (first | (with_reducible first | exact HB.out | apply below_alloc | apply pw_below_drewN | apply below_drew1) | exact HB.out)⟩
   ·replace c5 := Bool.eq_false_iff.mpr c5
    subst c5
    have H1 : (pianolaref10_Longest.l0 kj2 l0 l1 0) = some (r1, r2) := by rw [if_neg (show ¬ (false = true) by decide)] at H; exact H
    clear H
    have H := H1
    clear H1
    have H' := Aside0.mk H
    clear H
    go_wp2
    repeat (go_quiet (fail); try go_wp2)
    go_loopg [6] kj2 (fun kq v6 w' => ∃ (x6_2 : Int), v6 = .int .i64 x6_2 ∧ Aside0 (pianolaref10_Longest.l0 kq l0 l1 x6_2 = some (r1, r2)) ∧ Aside0 (kq ≤ kj2) ∧ Aside0 (Below w.heap.size w w'))
    case atStart => exact ⟨(0), (by first | rfl | (simp; done) | (simp [*]; done)), H', ⟨Nat.le_refl _⟩, ⟨by repeat (first | (with_reducible first | exact HB.out | apply below_alloc | apply pw_below_drewN | apply below_drew1) | exact HB.out)⟩⟩
    case round =>
     clear H'
     try clear c1
     try clear p2
     try clear c3
     try clear c4
     try clear c4b0
     try clear c4b1
     try clear c4b2
     try clear c5
     try clear p2
     obtain ⟨x6_2, rfl, HA, HK2, HB⟩ := hrel
     cases gk with
     | zero => exact absurd HA.out (by simp [pianolaref10_Longest.l0])
     | succ k2 =>
      have H := HA.out
      clear HA
      simp only [pianolaref10_Longest.l0] at H
      by_cases c6 : x6_2 < (l1.length : Int)
      ·rw [if_pos c6] at H
       have c6b0 : decide (x6_2 < (l1.length : Int)) = true := decide_eq_true c6
       clear c6
       by_cases c7 : 0 ≤ x6_2
       ·rw [if_pos c7] at H
        have c7b0 : decide (0 ≤ x6_2) = true := decide_eq_true c7
        clear c7
        by_cases c8 : (rd l1 x6_2) < 0
        ·rw [if_pos c8] at H
         have c8b0 : decide ((rd l1 x6_2) < 0) = true := decide_eq_true c8
         clear c8
         simp only [Option.some.injEq, Prod.mk.injEq] at H
         obtain ⟨rfl, rfl⟩ := H
         have p450 : 0 ≤ (x6_2 : Int) := of_decide_eq_true (by first | (with_reducible assumption) | assumption)
         have q450 : x6_2 < (l1.length : Int) := of_decide_eq_true (by first | (with_reducible assumption) | assumption)
         obtain ⟨ad450, e450, hx450_0⟩ := Kd.at_int HR1.out x6_2 p450 q450
         cases e450
         replace hx450_0 := (HB.out.cell (World.block_lt_of_cell? w _ hx450_0)).trans hx450_0
         replace p450 := eq_true p450
         replace q450 := eq_true q450
         go_wp2
         repeat (go_quiet (fail); try go_wp2)
         go_ret2
         exact ⟨by first | rfl | (simp [errW_none, errW_some] <;> rfl) | (simp [*, errW_none, errW_some] <;> rfl), by repeat (first | (with_reducible first | exact HB.out | apply below_alloc | apply pw_below_drewN | apply below_drew1) | exact HB.out)⟩
        ·rw [if_neg c8] at H
         have c8b0 : decide ((rd l1 x6_2) < 0) = false := decide_eq_false c8
         clear c8
         have H' := Aside0.mk H
         clear H
         have p450 : 0 ≤ (x6_2 : Int) := of_decide_eq_true (by first | (with_reducible assumption) | assumption)
         have q450 : x6_2 < (l1.length : Int) := of_decide_eq_true (by first | (with_reducible assumption) | assumption)
         obtain ⟨ad450, e450, hx450_0⟩ := Kd.at_int HR1.out x6_2 p450 q450
         cases e450
         replace hx450_0 := (HB.out.cell (World.block_lt_of_cell? w _ hx450_0)).trans hx450_0
         replace p450 := eq_true p450
         replace q450 := eq_true q450
         go_wp2
         repeat (go_quiet (fail); try go_wp2)
         go_roundg k2
         case measure => have := HJ2.out; have := HK2.out; omega
         case rel => exact ⟨(wrap64 (x6_2 + 1)), (by first | rfl | (simp; done) | (simp [*]; done)), H', ⟨by have := HJ2.out; have := HK2.out; omega⟩, ⟨by repeat (first | (with_reducible first | exact HB.out | apply below_alloc | apply pw_below_drewN | apply below_drew1) | exact HB.out)⟩⟩
       ·rw [if_neg c7] at H
        exact absurd H (by simp)
      ·rw [if_neg c6] at H
       have c6b0 : decide (x6_2 < (l1.length : Int)) = false := decide_eq_false c6
       clear c6
       replace H := Option.bind_eq_some_iff.mp H
       obtain ⟨⟨t451, t452⟩, A90, H⟩ := H
       replace H : (if 0 ≤ (l0.length : Int) then (if ((l0.length : Int) : Int).toNat ≤ 35184372088832 then ((some (List.replicate ((l0.length : Int) : Int).toNat 0 : List Int)).bind fun y457 => (if ((l0.length : Int) : Int).toNat ≤ 281474976710656 then ((some (List.replicate ((l0.length : Int) : Int).toNat false : List Bool)).bind fun y460 => (if 0 < (l1.length : Int) then (if 0 < (y457.length : Int) then (if 0 < (y460.length : Int) then (if (rd l1 0) > 4611686018427387904 then (some (0, false)) else (pianolaref10_Longest.l1 k2 l0 l1 t451 (y457.set (0 : Int).toNat (rd l1 0)) (y460.set (0 : Int).toNat true) (rd l1 0) 0)) else (none)) else (none)) else (none))) else (none))) else (none)) else (none)) = some (r1, r2) := H
       have A9 := Aside0.mk A90
       clear A90
       by_cases c10 : 0 ≤ (l0.length : Int)
       ·rw [if_pos c10] at H
        have c10b0 := eq_true c10
        have c10b1 : decide (0 ≤ (l0.length : Int)) = true := decide_eq_true c10
        clear c10
        by_cases c11 : ((l0.length : Int) : Int).toNat ≤ 35184372088832
        ·rw [if_pos c11] at H
         have c11b0 := eq_true c11
         have c11b1 : decide (((l0.length : Int) : Int).toNat ≤ 35184372088832) = true := decide_eq_true c11
         clear c11
         obtain ⟨y457, hy457⟩ : ∃ y_ : List Int, y_ = (List.replicate ((l0.length : Int) : Int).toNat 0) := ⟨_, rfl⟩
         replace H : (if ((l0.length : Int) : Int).toNat ≤ 281474976710656 then ((some (List.replicate ((l0.length : Int) : Int).toNat false : List Bool)).bind fun y460 => (if 0 < (l1.length : Int) then (if 0 < (y457.length : Int) then (if 0 < (y460.length : Int) then (if (rd l1 0) > 4611686018427387904 then (some (0, false)) else (pianolaref10_Longest.l1 k2 l0 l1 t451 (y457.set (0 : Int).toNat (rd l1 0)) (y460.set (0 : Int).toNat true) (rd l1 0) 0)) else (none)) else (none)) else (none))) else (none)) = some (r1, r2) := by first | (rw [hy457]; with_reducible exact H) | (have H2_ := (Option.bind_some _ _).symm.trans H; rw [hy457]; with_reducible exact H2_) | (have H2_ := (Option.bind_some _ _).symm.trans H; with_reducible exact H2_) | with_reducible exact H | (rw [hy457]; exact H) | exact H
         have Ny457 := Aside0.mk hy457
         clear hy457
         by_cases c12 : ((l0.length : Int) : Int).toNat ≤ 281474976710656
         ·rw [if_pos c12] at H
          have c12b0 := eq_true c12
          have c12b1 : decide (((l0.length : Int) : Int).toNat ≤ 281474976710656) = true := decide_eq_true c12
          clear c12
          obtain ⟨y460, hy460⟩ : ∃ y_ : List Bool, y_ = (List.replicate ((l0.length : Int) : Int).toNat false) := ⟨_, rfl⟩
          replace H : (if 0 < (l1.length : Int) then (if 0 < (y457.length : Int) then (if 0 < (y460.length : Int) then (if (rd l1 0) > 4611686018427387904 then (some (0, false)) else (pianolaref10_Longest.l1 k2 l0 l1 t451 (y457.set (0 : Int).toNat (rd l1 0)) (y460.set (0 : Int).toNat true) (rd l1 0) 0)) else (none)) else (none)) else (none)) = some (r1, r2) := by first | (rw [hy460]; with_reducible exact H) | (have H2_ := (Option.bind_some _ _).symm.trans H; rw [hy460]; with_reducible exact H2_) | (have H2_ := (Option.bind_some _ _).symm.trans H; with_reducible exact H2_) | with_reducible exact H | (rw [hy460]; exact H) | exact H
          have Ny460 := Aside0.mk hy460
          clear hy460
          by_cases c13 : 0 < (l1.length : Int)
          ·rw [if_pos c13] at H
           have c13b0 : decide (0 < (l1.length : Int)) = true := decide_eq_true c13
           have c13b1 : decide (0 < l1.length) = true := decide_eq_true (by omega)
           clear c13
           by_cases c14 : 0 < (y457.length : Int)
           ·rw [if_pos c14] at H
            have c14b0 : decide (0 < (y457.length : Int)) = true := decide_eq_true c14
            have c14b1 : decide (0 < y457.length) = true := decide_eq_true (by omega)
            clear c14
            obtain ⟨y464, hy464⟩ : ∃ y_ : List Int, y_ = (y457.set (0 : Int).toNat (rd l1 0)) := ⟨_, rfl⟩
            replace H : (if 0 < (y460.length : Int) then (if (rd l1 0) > 4611686018427387904 then (some (0, false)) else (pianolaref10_Longest.l1 k2 l0 l1 t451 y464 (y460.set (0 : Int).toNat true) (rd l1 0) 0)) else (none)) = some (r1, r2) := by first | (rw [hy464]; with_reducible exact H) | (have H2_ := (Option.bind_some _ _).symm.trans H; rw [hy464]; with_reducible exact H2_) | (have H2_ := (Option.bind_some _ _).symm.trans H; with_reducible exact H2_) | with_reducible exact H | (rw [hy464]; exact H) | exact H
            have Ny464 := Aside0.mk hy464
            clear hy464
            by_cases c16 : 0 < (y460.length : Int)
            ·rw [if_pos c16] at H
             have c16b0 : decide (0 < (y460.length : Int)) = true := decide_eq_true c16
             have c16b1 : decide (0 < y460.length) = true := decide_eq_true (by omega)
             clear c16
             obtain ⟨y465, hy465⟩ : ∃ y_ : List Bool, y_ = (y460.set (0 : Int).toNat true) := ⟨_, rfl⟩
             replace H : (if (rd l1 0) > 4611686018427387904 then (some (0, false)) else (pianolaref10_Longest.l1 k2 l0 l1 t451 y464 y465 (rd l1 0) 0)) = some (r1, r2) := by first | (rw [hy465]; with_reducible exact H) | (have H2_ := (Option.bind_some _ _).symm.trans H; rw [hy465]; with_reducible exact H2_) | (have H2_ := (Option.bind_some _ _).symm.trans H; with_reducible exact H2_) | with_reducible exact H | (rw [hy465]; exact H) | exact H
             have Ny465 := Aside0.mk hy465
             clear hy465
             by_cases c18 : (rd l1 0) > 4611686018427387904
             ·rw [if_pos c18] at H
              have c18b0 : decide (4611686018427387904 < (rd l1 0)) = true := decide_eq_true c18
              clear c18
              simp only [Option.some.injEq, Prod.mk.injEq] at H
              obtain ⟨rfl, rfl⟩ := H
              go_wp2_with (first | (go_at_call 19; (with_reducible refine (pianolaref08_Walk.calls _ _ l0 (-1) t451 t452 _ ?side1 ?side2 A9.out).mono ?_); (case side1 => repeat (first | exact (Kd.C_below HR0.out HB.out) | (with_reducible refine Kd.C_alloc ?_ _) | (with_reducible refine Kd.C_drewN ?_ _) | (with_reducible refine Kd.C_drew ?_))); (case side2 => exact HC0.out); rintro e w19 ⟨v453, v455, rfl, ho0, ho1, hb⟩; have n0_ := Aside0.mk (Kd.R_lower ho0 (below_size (by repeat (first | (with_reducible first | exact HB.out | apply below_alloc | apply pw_below_drewN | apply below_drew1) | exact HB.out)))); have n1_ := Aside0.mk (Kd.R_lower ho1 (below_size (by repeat (first | (with_reducible first | exact HB.out | apply below_alloc | apply pw_below_drewN | apply below_drew1) | exact HB.out)))); have n2_ := Aside0.mk (below_step (by repeat (first | (with_reducible first | exact HB.out | apply below_alloc | apply pw_below_drewN | apply below_drew1) | exact HB.out)) hb); clear HB; have HO454 := n0_; have HO456 := n1_; have HB := n2_; clear n0_ n1_ n2_; (try clear hb); (try clear hb2); (try clear hk); (try clear hi); (try clear ho0); (try clear ho1)) | ((with_reducible refine gate_dst (N := 46) rfl ?_); refine Kd.R_make (Kd.int .i64) _ 3 rfl (N := 46) rfl 23 _ _ rfl (l0.length : Int) rfl rfl Try.underlying23 (.int .i64 0) 8 info3 rfl (by decide) (by omega) 0 (ok := fun _ => True) (okp := fun _ => True) rfl (fun _ hk => hk) trivial (of_decide_eq_true (by first | (with_reducible assumption) | assumption)) (Nat.le_trans (Nat.mul_le_mul_right _ (of_decide_eq_true (by first | (with_reducible assumption) | assumption) : (l0.length : Int).toNat ≤ 35184372088832)) (by omega)) (Below.refl _ _) (Nat.le_refl _) ?_; intro v458 w20 ho21 hb hg_ hnew_; clear hg_ hnew_; (first | rw [← Ny457.out] at ho21 | (simp only [Int.reduceToNat] at ho21; rw [← Ny457.out] at ho21)); have n0_ := Aside0.mk (Kd.R_below (by (with_reducible repeat (first | apply Kd.R_alloc | apply Kd.R_drewN | apply Kd.R_drew)); exact HO454.out) hb); have n1_ := Aside0.mk (Kd.R_elder' (by (with_reducible repeat (first | apply Kd.R_alloc | apply Kd.R_drewN | apply Kd.R_drew)); exact HO456.out) (Kd.R_base ho21) hb); have n2_ := Aside0.mk (Kd.R_lower (Kd.R_new' ho21 (Kd.R_lt (by (with_reducible repeat (first | apply Kd.R_alloc | apply Kd.R_drewN | apply Kd.R_drew)); exact HO456.out))) (below_size (by repeat (first | (with_reducible first | exact HB.out | apply below_alloc | apply pw_below_drewN | apply below_drew1) | exact HB.out)))); have n3_ := Aside0.mk (below_step (by repeat (first | (with_reducible first | exact HB.out | apply below_alloc | apply pw_below_drewN | apply below_drew1) | exact HB.out)) hb); clear HO454; clear HO456; clear HB; have HO454 := n0_; have HO456 := n1_; have HO459 := n2_; have HB := n3_; clear n0_ n1_ n2_ n3_; clear hb ho21) | ((with_reducible refine gate_dst (N := 49) rfl ?_); refine Kd.R_make Kd.bool _ 4 rfl (N := 49) rfl 36 _ _ rfl (l0.length : Int) rfl rfl Try.underlying36 (.bool false) 1 info4 rfl (by decide) (by omega) false (ok := fun _ => True) (okp := fun _ => True) rfl (fun _ hk => hk) trivial (of_decide_eq_true (by first | (with_reducible assumption) | assumption)) (Nat.le_trans (Nat.mul_le_mul_right _ (of_decide_eq_true (by first | (with_reducible assumption) | assumption) : (l0.length : Int).toNat ≤ 281474976710656)) (by omega)) (Below.refl _ _) (Nat.le_refl _) ?_; intro v461 w22 ho23 hb hg_ hnew_; clear hg_ hnew_; (first | rw [← Ny460.out] at ho23 | (simp only [Int.reduceToNat] at ho23; rw [← Ny460.out] at ho23)); have n0_ := Aside0.mk (Kd.R_elder' (by (with_reducible repeat (first | apply Kd.R_alloc | apply Kd.R_drewN | apply Kd.R_drew)); exact HO454.out) (Kd.R_base ho23) hb); have n1_ := Aside0.mk (Kd.R_below (by (with_reducible repeat (first | apply Kd.R_alloc | apply Kd.R_drewN | apply Kd.R_drew)); exact HO456.out) hb); have n2_ := Aside0.mk (Kd.R_below (by (with_reducible repeat (first | apply Kd.R_alloc | apply Kd.R_drewN | apply Kd.R_drew)); exact HO459.out) hb); have n3_ := Aside0.mk (Kd.R_lower (Kd.R_new' ho23 (Kd.R_lt (by (with_reducible repeat (first | apply Kd.R_alloc | apply Kd.R_drewN | apply Kd.R_drew)); exact HO454.out))) (below_size (by repeat (first | (with_reducible first | exact HB.out | apply below_alloc | apply pw_below_drewN | apply below_drew1) | exact HB.out)))); have n4_ := Aside0.mk (below_step (by repeat (first | (with_reducible first | exact HB.out | apply below_alloc | apply pw_below_drewN | apply below_drew1) | exact HB.out)) hb); clear HO454; clear HO456; clear HO459; clear HB; have HO454 := n0_; have HO456 := n1_; have HO459 := n2_; have HO462 := n3_; have HB := n4_; clear n0_ n1_ n2_ n3_ n4_; clear hb ho23; have p463 : 0 ≤ (0 : Int) := (by omega); have q463 : 0 < (l1.length : Int) := of_decide_eq_true (by first | (with_reducible assumption) | assumption); obtain ⟨ad463, e463, hx463_0⟩ := Kd.at_int HR1.out 0 p463 q463; cases e463; have qi463 : (0 < l1.length) = True := eq_true (by omega); (try rw [show ((0 : Int)).toNat = 0 from rfl] at hx463_0); (try rw [Addr.add_zero'] at hx463_0); replace hx463_0 := (HB.out.cell (World.block_lt_of_cell? w _ hx463_0)).trans hx463_0; replace p463 := eq_true p463; replace q463 := eq_true q463; have p15 : 0 ≤ (0 : Int) := (by omega); have q15 : (0 : Int) < ((y457.length : Int) : Int) := of_decide_eq_true (by first | (with_reducible assumption) | assumption); have qi15 : (0 < y457.length) = True := eq_true (by omega); obtain ⟨go15, co15, eo15, gb15, gl15, cl15, HG15⟩ := Kd.R_form HO459.out (by omega); (first | cases eo15 | (injection eo15 with ea_ en_ ec_; (first | subst ea_ | (injection ea_ with ea_; subst ea_)); subst ec_; clear en_)); have GB15 := Aside0.mk gb15; have GG15 := Aside0.mk HG15; clear gb15 gl15 HG15; obtain ⟨hx15_0, hf15_0⟩ := Kd.R_celln 0 HO459.out (0 : Int) p15 q15; (try rw [show ((0 : Int)).toNat = 0 from rfl] at hx15_0); (try simp only [Nat.reduceMul, Nat.zero_mul, Nat.zero_add, Nat.reduceAdd] at hx15_0); (try rw [show ((0 : Int)).toNat = 0 from rfl] at hf15_0); (try simp only [Nat.reduceMul, Nat.zero_mul, Nat.zero_add, Nat.reduceAdd] at hf15_0); replace p15 := eq_true p15; replace q15 := eq_true q15; have n_ := Aside0.mk (Kd.R_mono (ok' := (fun k_ => some k_ ≠ (v455 : Value).ownBlock)) HO459.out (fun k_ hk => hk.2)); clear HO459; have HO459 := n_; clear n_; obtain ⟨hy24_, hz24_⟩ := Kd.R_celln 0 HO459.out (0 : Int) (by omega) (of_decide_eq_true (by first | (with_reducible assumption) | assumption)); (try simp only [Int.reduceToNat, Int.toNat_zero, Int.toNat_ofNat, Nat.reduceMul, Nat.zero_mul, Nat.zero_add] at hy24_ hz24_); (try rw [show ((0 : Int)).toNat = 0 from rfl] at hy24_); (try rw [show ((0 : Int)).toNat = 0 from rfl] at hz24_); have HP24 := Kd.R_putg HO459.out (0 : Int) (rd l1 0)) | ((with_reducible refine gate_store (t := 3) (p := 55) rfl ?_); (try (rw [drewN_self w22]; generalize hq_ : World.drewN w22 _ = w22; have n0_ := Aside0.mk (Kd.R_at hq_ HO454.out); have n1_ := Aside0.mk (Kd.R_at hq_ HO456.out); have n2_ := Aside0.mk (Kd.R_at hq_ HO459.out); have n3_ := Aside0.mk (Kd.R_at hq_ HO462.out); have n4_ := Aside0.mk (below_at hq_ HB.out); clear hq_ HO454 HO456 HO459 HO462 HB; have HO454 := n0_; have HO456 := n1_; have HO459 := n2_; have HO462 := n3_; have HB := n4_; clear n0_ n1_ n2_ n3_ n4_; (try (have n_ := Aside0.mk (Kd.R_mono (ok' := (fun k_ => some k_ ≠ (v455 : Value).ownBlock)) HO459.out (fun k_ hk => hk.2)); clear HO459; have HO459 := n_; clear n_)); (try (obtain ⟨hy24_, hz24_⟩ := Kd.R_celln 0 HO459.out (0 : Int) (by omega) (of_decide_eq_true (by first | (with_reducible assumption) | assumption)))); (try (try simp only [Int.reduceToNat, Int.toNat_zero, Int.toNat_ofNat, Nat.reduceMul, Nat.zero_mul, Nat.zero_add] at hy24_ hz24_)); (try (try rw [show ((0 : Int)).toNat = 0 from rfl] at hy24_)); (try (try rw [show ((0 : Int)).toNat = 0 from rfl] at hz24_)); (try (have HP24 := Kd.R_putg HO459.out (0 : Int) (rd l1 0))))); refine store_event (t := 3) (p := 55) (v := ?vo_w25) (w1 := (w22.setCell ⟨go15, (0 : Int).toNat, none⟩ (.int .i64 (rd l1 0)))) ?hg ?ho ?hn ?hr ?_; (case ho => rfl); (case hg => rfl); (case hn => rfl); (case hr => first | (go_simp; done) | (go_simp; rfl)); intro w25 hw; have hg : w22.grownBy w25 (some go15) := (by rw [hw]; exact HP24.2); have hp_ : Kd.R (Kd.int .i64) 3 w25 w.heap.size (fun k_ => some k_ ≠ (v455 : Value).ownBlock) (.slice (some ⟨go15, 0, none⟩) y457.length co15) y464 := (by rw [hw, Ny464.out]; exact HP24.1); clear HP24; have n0_ := Aside0.mk (Kd.R_over' (v := (.slice (some ⟨go15, 0, none⟩) y457.length co15)) (by (with_reducible repeat (first | apply Kd.R_alloc | apply Kd.R_drewN | apply Kd.R_drew)); exact HO454.out) (Kd.R_typed HO459.out) (by decide) hg); have n1_ := Aside0.mk (Kd.R_after (v := (.slice (some ⟨go15, 0, none⟩) y457.length co15)) (v1 := (.slice (some ⟨go15, 0, none⟩) y457.length co15)) (ok := (fun _ => True)) (by (with_reducible repeat (first | apply Kd.R_alloc | apply Kd.R_drewN | apply Kd.R_drew)); exact HO456.out) hg (.inl rfl)); have n2_ := Aside0.mk (hp_); have n3_ := Aside0.mk (Kd.R_over' (v := (.slice (some ⟨go15, 0, none⟩) y457.length co15)) (by (with_reducible repeat (first | apply Kd.R_alloc | apply Kd.R_drewN | apply Kd.R_drew)); exact HO462.out) (Kd.R_typed HO459.out) (by decide) hg); have n4_ := Aside0.mk ((by rw [hw]; exact below_set (HB.out) GB15.out : Below w.heap.size w w25)); clear HO454; clear HO456; clear HO459; clear HO462; clear HB; have HO454 := n0_; have HO456 := n1_; have HO459 := n2_; have HO462 := n3_; have HB := n4_; clear n0_ n1_ n2_ n3_ n4_; clear hg hw hp_; have p17 : 0 ≤ (0 : Int) := (by omega); have q17 : (0 : Int) < ((y460.length : Int) : Int) := of_decide_eq_true (by first | (with_reducible assumption) | assumption); have qi17 : (0 < y460.length) = True := eq_true (by omega); obtain ⟨go17, co17, eo17, gb17, gl17, cl17, HG17⟩ := Kd.R_form HO462.out (by omega); (first | cases eo17 | (injection eo17 with ea_ en_ ec_; (first | subst ea_ | (injection ea_ with ea_; subst ea_)); subst ec_; clear en_)); have GB17 := Aside0.mk gb17; have GG17 := Aside0.mk HG17; clear gb17 gl17 HG17; obtain ⟨hx17_0, hf17_0⟩ := Kd.R_celln false HO462.out (0 : Int) p17 q17; (try rw [show ((0 : Int)).toNat = 0 from rfl] at hx17_0); (try simp only [Nat.reduceMul, Nat.zero_mul, Nat.zero_add, Nat.reduceAdd] at hx17_0); (try rw [show ((0 : Int)).toNat = 0 from rfl] at hf17_0); (try simp only [Nat.reduceMul, Nat.zero_mul, Nat.zero_add, Nat.reduceAdd] at hf17_0); replace p17 := eq_true p17; replace q17 := eq_true q17; have n_ := Aside0.mk (Kd.R_mono (ok' := (fun k_ => some k_ ≠ (v453 : Value).ownBlock)) HO462.out (fun k_ hk => hk.2)); clear HO462; have HO462 := n_; clear n_; obtain ⟨hy26_, hz26_⟩ := Kd.R_celln false HO462.out (0 : Int) (by omega) (of_decide_eq_true (by first | (with_reducible assumption) | assumption)); (try simp only [Int.reduceToNat, Int.toNat_zero, Int.toNat_ofNat, Nat.reduceMul, Nat.zero_mul, Nat.zero_add] at hy26_ hz26_); (try rw [show ((0 : Int)).toNat = 0 from rfl] at hy26_); (try rw [show ((0 : Int)).toNat = 0 from rfl] at hz26_); have HP26 := Kd.R_putg HO462.out (0 : Int) true) | ((with_reducible refine gate_store (t := 4) (p := 56) rfl ?_); (try (rw [drewN_self w25]; generalize hq_ : World.drewN w25 _ = w25; have n0_ := Aside0.mk (Kd.R_at hq_ HO454.out); have n1_ := Aside0.mk (Kd.R_at hq_ HO456.out); have n2_ := Aside0.mk (Kd.R_at hq_ HO459.out); have n3_ := Aside0.mk (Kd.R_at hq_ HO462.out); have n4_ := Aside0.mk (below_at hq_ HB.out); clear hq_ HO454 HO456 HO459 HO462 HB; have HO454 := n0_; have HO456 := n1_; have HO459 := n2_; have HO462 := n3_; have HB := n4_; clear n0_ n1_ n2_ n3_ n4_; (try (have n_ := Aside0.mk (Kd.R_mono (ok' := (fun k_ => some k_ ≠ (v453 : Value).ownBlock)) HO462.out (fun k_ hk => hk.2)); clear HO462; have HO462 := n_; clear n_)); (try (obtain ⟨hy26_, hz26_⟩ := Kd.R_celln false HO462.out (0 : Int) (by omega) (of_decide_eq_true (by first | (with_reducible assumption) | assumption)))); (try (try simp only [Int.reduceToNat, Int.toNat_zero, Int.toNat_ofNat, Nat.reduceMul, Nat.zero_mul, Nat.zero_add] at hy26_ hz26_)); (try (try rw [show ((0 : Int)).toNat = 0 from rfl] at hy26_)); (try (try rw [show ((0 : Int)).toNat = 0 from rfl] at hz26_)); (try (have HP26 := Kd.R_putg HO462.out (0 : Int) true)))); refine store_event (t := 4) (p := 56) (v := ?vo_w27) (w1 := (w25.setCell ⟨go17, (0 : Int).toNat, none⟩ (.bool true))) ?hg ?ho ?hn ?hr ?_; (case ho => rfl); (case hg => rfl); (case hn => rfl); (case hr => first | (go_simp; done) | (go_simp; rfl)); intro w27 hw; have hg : w25.grownBy w27 (some go17) := (by rw [hw]; exact HP26.2); have hp_ : Kd.R Kd.bool 4 w27 w.heap.size (fun k_ => some k_ ≠ (v453 : Value).ownBlock) (.slice (some ⟨go17, 0, none⟩) y460.length co17) y465 := (by rw [hw, Ny465.out]; exact HP26.1); clear HP26; have n0_ := Aside0.mk (Kd.R_after (v := (.slice (some ⟨go17, 0, none⟩) y460.length co17)) (v1 := (.slice (some ⟨go17, 0, none⟩) y460.length co17)) (ok := (fun _ => True)) (by (with_reducible repeat (first | apply Kd.R_alloc | apply Kd.R_drewN | apply Kd.R_drew)); exact HO454.out) hg (.inl rfl)); have n1_ := Aside0.mk (Kd.R_over' (v := (.slice (some ⟨go17, 0, none⟩) y460.length co17)) (by (with_reducible repeat (first | apply Kd.R_alloc | apply Kd.R_drewN | apply Kd.R_drew)); exact HO456.out) (Kd.R_typed HO462.out) (by decide) hg); have n2_ := Aside0.mk (Kd.R_over' (v := (.slice (some ⟨go17, 0, none⟩) y460.length co17)) (by (with_reducible repeat (first | apply Kd.R_alloc | apply Kd.R_drewN | apply Kd.R_drew)); exact HO459.out) (Kd.R_typed HO462.out) (by decide) hg); have n3_ := Aside0.mk (hp_); have n4_ := Aside0.mk ((by rw [hw]; exact below_set (HB.out) GB17.out : Below w.heap.size w w27)); clear HO454; clear HO456; clear HO459; clear HO462; clear HB; have HO454 := n0_; have HO456 := n1_; have HO459 := n2_; have HO462 := n3_; have HB := n4_; clear n0_ n1_ n2_ n3_ n4_; clear hg hw hp_; have p466 : 0 ≤ (0 : Int) := (by omega); have q466 : 0 < (l1.length : Int) := of_decide_eq_true (by first | (with_reducible assumption) | assumption); obtain ⟨ad466, e466, hx466_0⟩ := Kd.at_int HR1.out 0 p466 q466; obtain rfl : ad463 = ad466 := (by injection e466); have qi466 : (0 < l1.length) = True := eq_true (by omega); (try rw [show ((0 : Int)).toNat = 0 from rfl] at hx466_0); (try rw [Addr.add_zero'] at hx466_0); replace hx466_0 := (HB.out.cell (World.block_lt_of_cell? w _ hx466_0)).trans hx466_0; replace p466 := eq_true p466; replace q466 := eq_true q466))
              repeat (go_quiet (first | (go_at_call 19; (with_reducible refine (pianolaref08_Walk.calls _ _ l0 (-1) t451 t452 _ ?side1 ?side2 A9.out).mono ?_); (case side1 => repeat (first | exact (Kd.C_below HR0.out HB.out) | (with_reducible refine Kd.C_alloc ?_ _) | (with_reducible refine Kd.C_drewN ?_ _) | (with_reducible refine Kd.C_drew ?_))); (case side2 => exact HC0.out); rintro e w19 ⟨v453, v455, rfl, ho0, ho1, hb⟩; have n0_ := Aside0.mk (Kd.R_lower ho0 (below_size (by repeat (first | (with_reducible first | exact HB.out | apply below_alloc | apply pw_below_drewN | apply below_drew1) | exact HB.out)))); have n1_ := Aside0.mk (Kd.R_lower ho1 (below_size (by repeat (first | (with_reducible first | exact HB.out | apply below_alloc | apply pw_below_drewN | apply below_drew1) | exact HB.out)))); have n2_ := Aside0.mk (below_step (by repeat (first | (with_reducible first | exact HB.out | apply below_alloc | apply pw_below_drewN | apply below_drew1) | exact HB.out)) hb); clear HB; have HO454 := n0_; have HO456 := n1_; have HB := n2_; clear n0_ n1_ n2_; (try clear hb); (try clear hb2); (try clear hk); (try clear hi); (try clear ho0); (try clear ho1)) | ((with_reducible refine gate_dst (N := 46) rfl ?_); refine Kd.R_make (Kd.int .i64) _ 3 rfl (N := 46) rfl 23 _ _ rfl (l0.length : Int) rfl rfl Try.underlying23 (.int .i64 0) 8 info3 rfl (by decide) (by omega) 0 (ok := fun _ => True) (okp := fun _ => True) rfl (fun _ hk => hk) trivial (of_decide_eq_true (by first | (with_reducible assumption) | assumption)) (Nat.le_trans (Nat.mul_le_mul_right _ (of_decide_eq_true (by first | (with_reducible assumption) | assumption) : (l0.length : Int).toNat ≤ 35184372088832)) (by omega)) (Below.refl _ _) (Nat.le_refl _) ?_; intro v458 w20 ho21 hb hg_ hnew_; clear hg_ hnew_; (first | rw [← Ny457.out] at ho21 | (simp only [Int.reduceToNat] at ho21; rw [← Ny457.out] at ho21)); have n0_ := Aside0.mk (Kd.R_below (by (with_reducible repeat (first | apply Kd.R_alloc | apply Kd.R_drewN | apply Kd.R_drew)); exact HO454.out) hb); have n1_ := Aside0.mk (Kd.R_elder' (by (with_reducible repeat (first | apply Kd.R_alloc | apply Kd.R_drewN | apply Kd.R_drew)); exact HO456.out) (Kd.R_base ho21) hb); have n2_ := Aside0.mk (Kd.R_lower (Kd.R_new' ho21 (Kd.R_lt (by (with_reducible repeat (first | apply Kd.R_alloc | apply Kd.R_drewN | apply Kd.R_drew)); exact HO456.out))) (below_size (by repeat (first | (with_reducible first | exact HB.out | apply below_alloc | apply pw_below_drewN | apply below_drew1) | exact HB.out)))); have n3_ := Aside0.mk (below_step (by repeat (first | (with_reducible first | exact HB.out | apply below_alloc | apply pw_below_drewN | apply below_drew1) | exact HB.out)) hb); clear HO454; clear HO456; clear HB; have HO454 := n0_; have HO456 := n1_; have HO459 := n2_; have HB := n3_; clear n0_ n1_ n2_ n3_; clear hb ho21) | ((with_reducible refine gate_dst (N := 49) rfl ?_); refine Kd.R_make Kd.bool _ 4 rfl (N := 49) rfl 36 _ _ rfl (l0.length : Int) rfl rfl Try.underlying36 (.bool false) 1 info4 rfl (by decide) (by omega) false (ok := fun _ => True) (okp := fun _ => True) rfl (fun _ hk => hk) trivial (of_decide_eq_true (by first | (with_reducible assumption) | assumption)) (Nat.le_trans (Nat.mul_le_mul_right _ (of_decide_eq_true (by first | (with_reducible assumption) | assumption) : (l0.length : Int).toNat ≤ 281474976710656)) (by omega)) (Below.refl _ _) (Nat.le_refl _) ?_; intro v461 w22 ho23 hb hg_ hnew_; clear hg_ hnew_; (first | rw [← Ny460.out] at ho23 | (simp only [Int.reduceToNat] at ho23; rw [← Ny460.out] at ho23)); have n0_ := Aside0.mk (Kd.R_elder' (by (with_reducible repeat (first | apply Kd.R_alloc | apply Kd.R_drewN | apply Kd.R_drew)); exact HO454.out) (Kd.R_base ho23) hb); have n1_ := Aside0.mk (Kd.R_below (by (with_reducible repeat (first | apply Kd.R_alloc | apply Kd.R_drewN | apply Kd.R_drew)); exact HO456.out) hb); have n2_ := Aside0.mk (Kd.R_below (by (with_reducible repeat (first | apply Kd.R_alloc | apply Kd.R_drewN | apply Kd.R_drew)); exact HO459.out) hb); have n3_ := Aside0.mk (Kd.R_lower (Kd.R_new' ho23 (Kd.R_lt (by (with_reducible repeat (first | apply Kd.R_alloc | apply Kd.R_drewN | apply Kd.R_drew)); exact HO454.out))) (below_size (by repeat (first | (with_reducible first | exact HB.out | apply below_alloc | apply pw_below_drewN | apply below_drew1) | exact HB.out)))); have n4_ := Aside0.mk (below_step (by repeat (first | (with_reducible first | exact HB.out | apply below_alloc | apply pw_below_drewN | apply below_drew1) | exact HB.out)) hb); clear HO454; clear HO456; clear HO459; clear HB; have HO454 := n0_; have HO456 := n1_; have HO459 := n2_; have HO462 := n3_; have HB := n4_; clear n0_ n1_ n2_ n3_ n4_; clear hb ho23; have p463 : 0 ≤ (0 : Int) := (by omega); have q463 : 0 < (l1.length : Int) := of_decide_eq_true (by first | (with_reducible assumption) | assumption); obtain ⟨ad463, e463, hx463_0⟩ := Kd.at_int HR1.out 0 p463 q463; cases e463; have qi463 : (0 < l1.length) = True := eq_true (by omega); (try rw [show ((0 : Int)).toNat = 0 from rfl] at hx463_0); (try rw [Addr.add_zero'] at hx463_0); replace hx463_0 := (HB.out.cell (World.block_lt_of_cell? w _ hx463_0)).trans hx463_0; replace p463 := eq_true p463; replace q463 := eq_true q463; have p15 : 0 ≤ (0 : Int) := (by omega); have q15 : (0 : Int) < ((y457.length : Int) : Int) := of_decide_eq_true (by first | (with_reducible assumption) | assumption); have qi15 : (0 < y457.length) = True := eq_true (by omega); obtain ⟨go15, co15, eo15, gb15, gl15, cl15, HG15⟩ := Kd.R_form HO459.out (by omega); (first | cases eo15 | (injection eo15 with ea_ en_ ec_; (first | subst ea_ | (injection ea_ with ea_; subst ea_)); subst ec_; clear en_)); have GB15 := Aside0.mk gb15; have GG15 := Aside0.mk HG15; clear gb15 gl15 HG15; obtain ⟨hx15_0, hf15_0⟩ := Kd.R_celln 0 HO459.out (0 : Int) p15 q15; (try rw [show ((0 : Int)).toNat = 0 from rfl] at hx15_0); (try simp only [Nat.reduceMul, Nat.zero_mul, Nat.zero_add, Nat.reduceAdd] at hx15_0); (try rw [show ((0 : Int)).toNat = 0 from rfl] at hf15_0); (try simp only [Nat.reduceMul, Nat.zero_mul, Nat.zero_add, Nat.reduceAdd] at hf15_0); replace p15 := eq_true p15; replace q15 := eq_true q15; have n_ := Aside0.mk (Kd.R_mono (ok' := (fun k_ => some k_ ≠ (v455 : Value).ownBlock)) HO459.out (fun k_ hk => hk.2)); clear HO459; have HO459 := n_; clear n_; obtain ⟨hy24_, hz24_⟩ := Kd.R_celln 0 HO459.out (0 : Int) (by omega) (of_decide_eq_true (by first | (with_reducible assumption) | assumption)); (try simp only [Int.reduceToNat, Int.toNat_zero, Int.toNat_ofNat, Nat.reduceMul, Nat.zero_mul, Nat.zero_add] at hy24_ hz24_); (try rw [show ((0 : Int)).toNat = 0 from rfl] at hy24_); (try rw [show ((0 : Int)).toNat = 0 from rfl] at hz24_); have HP24 := Kd.R_putg HO459.out (0 : Int) (rd l1 0)) | ((with_reducible refine gate_store (t := 3) (p := 55) rfl ?_); (try (rw [drewN_self w22]; generalize hq_ : World.drewN w22 _ = w22; have n0_ := Aside0.mk (Kd.R_at hq_ HO454.out); have n1_ := Aside0.mk (Kd.R_at hq_ HO456.out); have n2_ := Aside0.mk (Kd.R_at hq_ HO459.out); have n3_ := Aside0.mk (Kd.R_at hq_ HO462.out); have n4_ := Aside0.mk (below_at hq_ HB.out); clear hq_ HO454 HO456 HO459 HO462 HB; have HO454 := n0_; have HO456 := n1_; have HO459 := n2_; have HO462 := n3_; have HB := n4_; clear n0_ n1_ n2_ n3_ n4_; (try (have n_ := Aside0.mk (Kd.R_mono (ok' := (fun k_ => some k_ ≠ (v455 : Value).ownBlock)) HO459.out (fun k_ hk => hk.2)); clear HO459; have HO459 := n_; clear n_)); (try (obtain ⟨hy24_, hz24_⟩ := Kd.R_celln 0 HO459.out (0 : Int) (by omega) (of_decide_eq_true (by first | (with_reducible assumption) | assumption)))); (try (try simp only [Int.reduceToNat, Int.toNat_zero, Int.toNat_ofNat, Nat.reduceMul, Nat.zero_mul, Nat.zero_add] at hy24_ hz24_)); (try (try rw [show ((0 : Int)).toNat = 0 from rfl] at hy24_)); (try (try rw [show ((0 : Int)).toNat = 0 from rfl] at hz24_)); (try (have HP24 := Kd.R_putg HO459.out (0 : Int) (rd l1 0))))); refine store_event (t := 3) (p := 55) (v := ?vo_w25) (w1 := (w22.setCell ⟨go15, (0 : Int).toNat, none⟩ (.int .i64 (rd l1 0)))) ?hg ?ho ?hn ?hr ?_; (case ho => rfl); (case hg => rfl); (case hn => rfl); (case hr => first | (go_simp; done) | (go_simp; rfl)); intro w25 hw; have hg : w22.grownBy w25 (some go15) := (by rw [hw]; exact HP24.2); have hp_ : Kd.R (Kd.int .i64) 3 w25 w.heap.size (fun k_ => some k_ ≠ (v455 : Value).ownBlock) (.slice (some ⟨go15, 0, none⟩) y457.length co15) y464 := (by rw [hw, Ny464.out]; exact HP24.1); clear HP24; have n0_ := Aside0.mk (Kd.R_over' (v := (.slice (some ⟨go15, 0, none⟩) y457.length co15)) (by (with_reducible repeat (first | apply Kd.R_alloc | apply Kd.R_drewN | apply Kd.R_drew)); exact HO454.out) (Kd.R_typed HO459.out) (by decide) hg); have n1_ := Aside0.mk (Kd.R_after (v := (.slice (some ⟨go15, 0, none⟩) y457.length co15)) (v1 := (.slice (some ⟨go15, 0, none⟩) y457.length co15)) (ok := (fun _ => True)) (by (with_reducible repeat (first | apply Kd.R_alloc | apply Kd.R_drewN | apply Kd.R_drew)); exact HO456.out) hg (.inl rfl)); have n2_ := Aside0.mk (hp_); have n3_ := Aside0.mk (Kd.R_over' (v := (.slice (some ⟨go15, 0, none⟩) y457.length co15)) (by (with_reducible repeat (first | apply Kd.R_alloc | apply Kd.R_drewN | apply Kd.R_drew)); exact HO462.out) (Kd.R_typed HO459.out) (by decide) hg); have n4_ := Aside0.mk ((by rw [hw]; exact below_set (HB.out) GB15.out : Below w.heap.size w w25)); clear HO454; clear HO456; clear HO459; clear HO462; clear HB; have HO454 := n0_; have HO456 := n1_; have HO459 := n2_; have HO462 := n3_; have HB := n4_; clear n0_ n1_ n2_ n3_ n4_; clear hg hw hp_; have p17 : 0 ≤ (0 : Int) := (by omega); have q17 : (0 : Int) < ((y460.length : Int) : Int) := of_decide_eq_true (by first | (with_reducible assumption) | assumption); have qi17 : (0 < y460.length) = True := eq_true (by omega); obtain ⟨go17, co17, eo17, gb17, gl17, cl17, HG17⟩ := Kd.R_form HO462.out (by omega); (first | cases eo17 | (injection eo17 with ea_ en_ ec_; (first | subst ea_ | (injection ea_ with ea_; subst ea_)); subst ec_; clear en_)); have GB17 := Aside0.mk gb17; have GG17 := Aside0.mk HG17; clear gb17 gl17 HG17; obtain ⟨hx17_0, hf17_0⟩ := Kd.R_celln false HO462.out (0 : Int) p17 q17; (try rw [show ((0 : Int)).toNat = 0 from rfl] at hx17_0); (try simp only [Nat.reduceMul, Nat.zero_mul, Nat.zero_add, Nat.reduceAdd] at hx17_0); (try rw [show ((0 : Int)).toNat = 0 from rfl] at hf17_0); (try simp only [Nat.reduceMul, Nat.zero_mul, Nat.zero_add, Nat.reduceAdd] at hf17_0); replace p17 := eq_true p17; replace q17 := eq_true q17; have n_ := Aside0.mk (Kd.R_mono (ok' := (fun k_ => some k_ ≠ (v453 : Value).ownBlock)) HO462.out (fun k_ hk => hk.2)); clear HO462; have HO462 := n_; clear n_; obtain ⟨hy26_, hz26_⟩ := Kd.R_celln false HO462.out (0 : Int) (by omega) (of_decide_eq_true (by first | (with_reducible assumption) | assumption)); (try simp only [Int.reduceToNat, Int.toNat_zero, Int.toNat_ofNat, Nat.reduceMul, Nat.zero_mul, Nat.zero_add] at hy26_ hz26_); (try rw [show ((0 : Int)).toNat = 0 from rfl] at hy26_); (try rw [show ((0 : Int)).toNat = 0 from rfl] at hz26_); have HP26 := Kd.R_putg HO462.out (0 : Int) true) | ((with_reducible refine gate_store (t := 4) (p := 56) rfl ?_); (try (rw [drewN_self w25]; generalize hq_ : World.drewN w25 _ = w25; have n0_ := Aside0.mk (Kd.R_at hq_ HO454.out); have n1_ := Aside0.mk (Kd.R_at hq_ HO456.out); have n2_ := Aside0.mk (Kd.R_at hq_ HO459.out); have n3_ := Aside0.mk (Kd.R_at hq_ HO462.out); have n4_ := Aside0.mk (below_at hq_ HB.out); clear hq_ HO454 HO456 HO459 HO462 HB; have HO454 := n0_; have HO456 := n1_; have HO459 := n2_; have HO462 := n3_; have HB := n4_; clear n0_ n1_ n2_ n3_ n4_; (try (have n_ := Aside0.mk (Kd.R_mono (ok' := (fun k_ => some k_ ≠ (v453 : Value).ownBlock)) HO462.out (fun k_ hk => hk.2)); clear HO462; have HO462 := n_; clear n_)); (try (obtain ⟨hy26_, hz26_⟩ := Kd.R_celln false HO462.out (0 : Int) (by omega) (of_decide_eq_true (by first | (with_reducible assumption) | assumption)))); (try (try simp only [Int.reduceToNat, Int.toNat_zero, Int.toNat_ofNat, Nat.reduceMul, Nat.zero_mul, Nat.zero_add] at hy26_ hz26_)); (try (try rw [show ((0 : Int)).toNat = 0 from rfl] at hy26_)); (try (try rw [show ((0 : Int)).toNat = 0 from rfl] at hz26_)); (try (have HP26 := Kd.R_putg HO462.out (0 : Int) true)))); refine store_event (t := 4) (p := 56) (v := ?vo_w27) (w1 := (w25.setCell ⟨go17, (0 : Int).toNat, none⟩ (.bool true))) ?hg ?ho ?hn ?hr ?_; (case ho => rfl); (case hg => rfl); (case hn => rfl); (case hr => first | (go_simp; done) | (go_simp; rfl)); intro w27 hw; have hg : w25.grownBy w27 (some go17) := (by rw [hw]; exact HP26.2); have hp_ : Kd.R Kd.bool 4 w27 w.heap.size (fun k_ => some k_ ≠ (v453 : Value).ownBlock) (.slice (some ⟨go17, 0, none⟩) y460.length co17) y465 := (by rw [hw, Ny465.out]; exact HP26.1); clear HP26; have n0_ := Aside0.mk (Kd.R_after (v := (.slice (some ⟨go17, 0, none⟩) y460.length co17)) (v1 := (.slice (some ⟨go17, 0, none⟩) y460.length co17)) (ok := (fun _ => True)) (by (with_reducible repeat (first | apply Kd.R_alloc | apply Kd.R_drewN | apply Kd.R_drew)); exact HO454.out) hg (.inl rfl)); have n1_ := Aside0.mk (Kd.R_over' (v := (.slice (some ⟨go17, 0, none⟩) y460.length co17)) (by (with_reducible repeat (first | apply Kd.R_alloc | apply Kd.R_drewN | apply Kd.R_drew)); exact HO456.out) (Kd.R_typed HO462.out) (by decide) hg); have n2_ := Aside0.mk (Kd.R_over' (v := (.slice (some ⟨go17, 0, none⟩) y460.length co17)) (by (with_reducible repeat (first | apply Kd.R_alloc | apply Kd.R_drewN | apply Kd.R_drew)); exact HO459.out) (Kd.R_typed HO462.out) (by decide) hg); have n3_ := Aside0.mk (hp_); have n4_ := Aside0.mk ((by rw [hw]; exact below_set (HB.out) GB17.out : Below w.heap.size w w27)); clear HO454; clear HO456; clear HO459; clear HO462; clear HB; have HO454 := n0_; have HO456 := n1_; have HO459 := n2_; have HO462 := n3_; have HB := n4_; clear n0_ n1_ n2_ n3_ n4_; clear hg hw hp_; have p466 : 0 ≤ (0 : Int) := (by omega); have q466 : 0 < (l1.length : Int) := of_decide_eq_true (by first | (with_reducible assumption) | assumption); obtain ⟨ad466, e466, hx466_0⟩ := Kd.at_int HR1.out 0 p466 q466; obtain rfl : ad463 = ad466 := (by injection e466); have qi466 : (0 < l1.length) = True := eq_true (by omega); (try rw [show ((0 : Int)).toNat = 0 from rfl] at hx466_0); (try rw [Addr.add_zero'] at hx466_0); replace hx466_0 := (HB.out.cell (World.block_lt_of_cell? w _ hx466_0)).trans hx466_0; replace p466 := eq_true p466; replace q466 := eq_true q466)); try go_wp2_with (first | (go_at_call 19; (with_reducible refine (pianolaref08_Walk.calls _ _ l0 (-1) t451 t452 _ ?side1 ?side2 A9.out).mono ?_); (case side1 => repeat (first | exact (Kd.C_below HR0.out HB.out) | (with_reducible refine Kd.C_alloc ?_ _) | (with_reducible refine Kd.C_drewN ?_ _) | (with_reducible refine Kd.C_drew ?_))); (case side2 => exact HC0.out); rintro e w19 ⟨v453, v455, rfl, ho0, ho1, hb⟩; have n0_ := Aside0.mk (Kd.R_lower ho0 (below_size (by repeat (first | (with_reducible first | exact HB.out | apply below_alloc | apply pw_below_drewN | apply below_drew1) | exact HB.out)))); have n1_ := Aside0.mk (Kd.R_lower ho1 (below_size (by repeat (first | (with_reducible first | exact HB.out | apply below_alloc | apply pw_below_drewN | apply below_drew1) | exact HB.out)))); have n2_ := Aside0.mk (below_step (by repeat (first | (with_reducible first | exact HB.out | apply below_alloc | apply pw_below_drewN | apply below_drew1) | exact HB.out)) hb); clear HB; have HO454 := n0_; have HO456 := n1_; have HB := n2_; clear n0_ n1_ n2_; (try clear hb); (try clear hb2); (try clear hk); (try clear hi); (try clear ho0); (try clear ho1)) | ((with_reducible refine gate_dst (N := 46) rfl ?_); refine Kd.R_make (Kd.int .i64) _ 3 rfl (N := 46) rfl 23 _ _ rfl (l0.length : Int) rfl rfl Try.underlying23 (.int .i64 0) 8 info3 rfl (by decide) (by omega) 0 (ok := fun _ => True) (okp := fun _ => True) rfl (fun _ hk => hk) trivial (of_decide_eq_true (by first | (with_reducible assumption) | assumption)) (Nat.le_trans (Nat.mul_le_mul_right _ (of_decide_eq_true (by first | (with_reducible assumption) | assumption) : (l0.length : Int).toNat ≤ 35184372088832)) (by omega)) (Below.refl _ _) (Nat.le_refl _) ?_; intro v458 w20 ho21 hb hg_ hnew_; clear hg_ hnew_; (first | rw [← Ny457.out] at ho21 | (simp only [Int.reduceToNat] at ho21; rw [← Ny457.out] at ho21)); have n0_ := Aside0.mk (Kd.R_below (by (with_reducible repeat (first | apply Kd.R_alloc | apply Kd.R_drewN | apply Kd.R_drew)); exact HO454.out) hb); have n1_ := Aside0.mk (Kd.R_elder' (by (with_reducible repeat (first | apply Kd.R_alloc | apply Kd.R_drewN | apply Kd.R_drew)); exact HO456.out) (Kd.R_base ho21) hb); have n2_ := Aside0.mk (Kd.R_lower (Kd.R_new' ho21 (Kd.R_lt (by (with_reducible repeat (first | apply Kd.R_alloc | apply Kd.R_drewN | apply Kd.R_drew)); exact HO456.out))) (below_size (by repeat (first | (with_reducible first | exact HB.out | apply below_alloc | apply pw_below_drewN | apply below_drew1) | exact HB.out)))); have n3_ := Aside0.mk (below_step (by repeat (first | (with_reducible first | exact HB.out | apply below_alloc | apply pw_below_drewN | apply below_drew1) | exact HB.out)) hb); clear HO454; clear HO456; clear HB; have HO454 := n0_; have HO456 := n1_; have HO459 := n2_; have HB := n3_; clear n0_ n1_ n2_ n3_; clear hb ho21) | ((with_reducible refine gate_dst (N := 49) rfl ?_); refine Kd.R_make Kd.bool _ 4 rfl (N := 49) rfl 36 _ _ rfl (l0.length : Int) rfl rfl Try.underlying36 (.bool false) 1 info4 rfl (by decide) (by omega) false (ok := fun _ => True) (okp := fun _ => True) rfl (fun _ hk => hk) trivial (of_decide_eq_true (by first | (with_reducible assumption) | assumption)) (Nat.le_trans (Nat.mul_le_mul_right _ (of_decide_eq_true (by first | (with_reducible assumption) | assumption) : (l0.length : Int).toNat ≤ 281474976710656)) (by omega)) (Below.refl _ _) (Nat.le_refl _) ?_; intro v461 w22 ho23 hb hg_ hnew_; clear hg_ hnew_; (first | rw [← Ny460.out] at ho23 | (simp only [Int.reduceToNat] at ho23; rw [← Ny460.out] at ho23)); have n0_ := Aside0.mk (Kd.R_elder' (by (with_reducible repeat (first | apply Kd.R_alloc | apply Kd.R_drewN | apply Kd.R_drew)); exact HO454.out) (Kd.R_base ho23) hb); have n1_ := Aside0.mk (Kd.R_below (by (with_reducible repeat (first | apply Kd.R_alloc | apply Kd.R_drewN | apply Kd.R_drew)); exact HO456.out) hb); have n2_ := Aside0.mk (Kd.R_below (by (with_reducible repeat (first | apply Kd.R_alloc | apply Kd.R_drewN | apply Kd.R_drew)); exact HO459.out) hb); have n3_ := Aside0.mk (Kd.R_lower (Kd.R_new' ho23 (Kd.R_lt (by (with_reducible repeat (first | apply Kd.R_alloc | apply Kd.R_drewN | apply Kd.R_drew)); exact HO454.out))) (below_size (by repeat (first | (with_reducible first | exact HB.out | apply below_alloc | apply pw_below_drewN | apply below_drew1) | exact HB.out)))); have n4_ := Aside0.mk (below_step (by repeat (first | (with_reducible first | exact HB.out | apply below_alloc | apply pw_below_drewN | apply below_drew1) | exact HB.out)) hb); clear HO454; clear HO456; clear HO459; clear HB; have HO454 := n0_; have HO456 := n1_; have HO459 := n2_; have HO462 := n3_; have HB := n4_; clear n0_ n1_ n2_ n3_ n4_; clear hb ho23; have p463 : 0 ≤ (0 : Int) := (by omega); have q463 : 0 < (l1.length : Int) := of_decide_eq_true (by first | (with_reducible assumption) | assumption); obtain ⟨ad463, e463, hx463_0⟩ := Kd.at_int HR1.out 0 p463 q463; cases e463; have qi463 : (0 < l1.length) = True := eq_true (by omega); (try rw [show ((0 : Int)).toNat = 0 from rfl] at hx463_0); (try rw [Addr.add_zero'] at hx463_0); replace hx463_0 := (HB.out.cell (World.block_lt_of_cell? w _ hx463_0)).trans hx463_0; replace p463 := eq_true p463; replace q463 := eq_true q463; have p15 : 0 ≤ (0 : Int) := (by omega); have q15 : (0 : Int) < ((y457.length : Int) : Int) := of_decide_eq_true (by first | (with_reducible assumption) | assumption); have qi15 : (0 < y457.length) = True := eq_true (by omega); obtain ⟨go15, co15, eo15, gb15, gl15, cl15, HG15⟩ := Kd.R_form HO459.out (by omega); (first | cases eo15 | (injection eo15 with ea_ en_ ec_; (first | subst ea_ | (injection ea_ with ea_; subst ea_)); subst ec_; clear en_)); have GB15 := Aside0.mk gb15; have GG15 := Aside0.mk HG15; clear gb15 gl15 HG15; obtain ⟨hx15_0, hf15_0⟩ := Kd.R_celln 0 HO459.out (0 : Int) p15 q15; (try rw [show ((0 : Int)).toNat = 0 from rfl] at hx15_0); (try simp only [Nat.reduceMul, Nat.zero_mul, Nat.zero_add, Nat.reduceAdd] at hx15_0); (try rw [show ((0 : Int)).toNat = 0 from rfl] at hf15_0); (try simp only [Nat.reduceMul, Nat.zero_mul, Nat.zero_add, Nat.reduceAdd] at hf15_0); replace p15 := eq_true p15; replace q15 := eq_true q15; have n_ := Aside0.mk (Kd.R_mono (ok' := (fun k_ => some k_ ≠ (v455 : Value).ownBlock)) HO459.out (fun k_ hk => hk.2)); clear HO459; have HO459 := n_; clear n_; obtain ⟨hy24_, hz24_⟩ := Kd.R_celln 0 HO459.out (0 : Int) (by omega) (of_decide_eq_true (by first | (with_reducible assumption) | assumption)); (try simp only [Int.reduceToNat, Int.toNat_zero, Int.toNat_ofNat, Nat.reduceMul, Nat.zero_mul, Nat.zero_add] at hy24_ hz24_); (try rw [show ((0 : Int)).toNat = 0 from rfl] at hy24_); (try rw [show ((0 : Int)).toNat = 0 from rfl] at hz24_); have HP24 := Kd.R_putg HO459.out (0 : Int) (rd l1 0)) | ((with_reducible refine gate_store (t := 3) (p := 55) rfl ?_); (try (rw [drewN_self w22]; generalize hq_ : World.drewN w22 _ = w22; have n0_ := Aside0.mk (Kd.R_at hq_ HO454.out); have n1_ := Aside0.mk (Kd.R_at hq_ HO456.out); have n2_ := Aside0.mk (Kd.R_at hq_ HO459.out); have n3_ := Aside0.mk (Kd.R_at hq_ HO462.out); have n4_ := Aside0.mk (below_at hq_ HB.out); clear hq_ HO454 HO456 HO459 HO462 HB; have HO454 := n0_; have HO456 := n1_; have HO459 := n2_; have HO462 := n3_; have HB := n4_; clear n0_ n1_ n2_ n3_ n4_; (try (have n_ := Aside0.mk (Kd.R_mono (ok' := (fun k_ => some k_ ≠ (v455 : Value).ownBlock)) HO459.out (fun k_ hk => hk.2)); clear HO459; have HO459 := n_; clear n_)); (try (obtain ⟨hy24_, hz24_⟩ := Kd.R_celln 0 HO459.out (0 : Int) (by omega) (of_decide_eq_true (by first | (with_reducible assumption) | assumption)))); (try (try simp only [Int.reduceToNat, Int.toNat_zero, Int.toNat_ofNat, Nat.reduceMul, Nat.zero_mul, Nat.zero_add] at hy24_ hz24_)); (try (try rw [show ((0 : Int)).toNat = 0 from rfl] at hy24_)); (try (try rw [show ((0 : Int)).toNat = 0 from rfl] at hz24_)); (try (have HP24 := Kd.R_putg HO459.out (0 : Int) (rd l1 0))))); refine store_event (t := 3) (p := 55) (v := ?vo_w25) (w1 := (w22.setCell ⟨go15, (0 : Int).toNat, none⟩ (.int .i64 (rd l1 0)))) ?hg ?ho ?hn ?hr ?_; (case ho => rfl); (case hg => rfl); (case hn => rfl); (case hr => first | (go_simp; done) | (go_simp; rfl)); intro w25 hw; have hg : w22.grownBy w25 (some go15) := (by rw [hw]; exact HP24.2); have hp_ : Kd.R (Kd.int .i64) 3 w25 w.heap.size (fun k_ => some k_ ≠ (v455 : Value).ownBlock) (.slice (some ⟨go15, 0, none⟩) y457.length co15) y464 := (by rw [hw, Ny464.out]; exact HP24.1); clear HP24; have n0_ := Aside0.mk (Kd.R_over' (v := (.slice (some ⟨go15, 0, none⟩) y457.length co15)) (by (with_reducible repeat (first | apply Kd.R_alloc | apply Kd.R_drewN | apply Kd.R_drew)); exact HO454.out) (Kd.R_typed HO459.out) (by decide) hg); have n1_ := Aside0.mk (Kd.R_after (v := (.slice (some ⟨go15, 0, none⟩) y457.length co15)) (v1 := (.slice (some ⟨go15, 0, none⟩) y457.length co15)) (ok := (fun _ => True)) (by (with_reducible repeat (first | apply Kd.R_alloc | apply Kd.R_drewN | apply Kd.R_drew)); exact HO456.out) hg (.inl rfl)); have n2_ := Aside0.mk (hp_); have n3_ := Aside0.mk (Kd.R_over' (v := (.slice (some ⟨go15, 0, none⟩) y457.length co15)) (by (with_reducible repeat (first | apply Kd.R_alloc | apply Kd.R_drewN | apply Kd.R_drew)); exact HO462.out) (Kd.R_typed HO459.out) (by decide) hg); have n4_ := Aside0.mk ((by rw [hw]; exact below_set (HB.out) GB15.out : Below w.heap.size w w25)); clear HO454; clear HO456; clear HO459; clear HO462; clear HB; have HO454 := n0_; have HO456 := n1_; have HO459 := n2_; have HO462 := n3_; have HB := n4_; clear n0_ n1_ n2_ n3_ n4_; clear hg hw hp_; have p17 : 0 ≤ (0 : Int) := (by omega); have q17 : (0 : Int) < ((y460.length : Int) : Int) := of_decide_eq_true (by first | (with_reducible assumption) | assumption); have qi17 : (0 < y460.length) = True := eq_true (by omega); obtain ⟨go17, co17, eo17, gb17, gl17, cl17, HG17⟩ := Kd.R_form HO462.out (by omega); (first | cases eo17 | (injection eo17 with ea_ en_ ec_; (first | subst ea_ | (injection ea_ with ea_; subst ea_)); subst ec_; clear en_)); have GB17 := Aside0.mk gb17; have GG17 := Aside0.mk HG17; clear gb17 gl17 HG17; obtain ⟨hx17_0, hf17_0⟩ := Kd.R_celln false HO462.out (0 : Int) p17 q17; (try rw [show ((0 : Int)).toNat = 0 from rfl] at hx17_0); (try simp only [Nat.reduceMul, Nat.zero_mul, Nat.zero_add, Nat.reduceAdd] at hx17_0); (try rw [show ((0 : Int)).toNat = 0 from rfl] at hf17_0); (try simp only [Nat.reduceMul, Nat.zero_mul, Nat.zero_add, Nat.reduceAdd] at hf17_0); replace p17 := eq_true p17; replace q17 := eq_true q17; have n_ := Aside0.mk (Kd.R_mono (ok' := (fun k_ => some k_ ≠ (v453 : Value).ownBlock)) HO462.out (fun k_ hk => hk.2)); clear HO462; have HO462 := n_; clear n_; obtain ⟨hy26_, hz26_⟩ := Kd.R_celln false HO462.out (0 : Int) (by omega) (of_decide_eq_true (by first | (with_reducible assumption) | assumption)); (try simp only [Int.reduceToNat, Int.toNat_zero, Int.toNat_ofNat, Nat.reduceMul, Nat.zero_mul, Nat.zero_add] at hy26_ hz26_); (try rw [show ((0 : Int)).toNat = 0 from rfl] at hy26_); (try rw [show ((0 : Int)).toNat = 0 from rfl] at hz26_); have HP26 := Kd.R_putg HO462.out (0 : Int) true) | ((with_reducible refine gate_store (t := 4) (p := 56) rfl ?_); (try (rw [drewN_self w25]; generalize hq_ : World.drewN w25 _ = w25; have n0_ := Aside0.mk (Kd.R_at hq_ HO454.out); have n1_ := Aside0.mk (Kd.R_at hq_ HO456.out); have n2_ := Aside0.mk (Kd.R_at hq_ HO459.out); have n3_ := Aside0.mk (Kd.R_at hq_ HO462.out); have n4_ := Aside0.mk (below_at hq_ HB.out); clear hq_ HO454 HO456 HO459 HO462 HB; have HO454 := n0_; have HO456 := n1_; have HO459 := n2_; have HO462 := n3_; have HB := n4_; clear n0_ n1_ n2_ n3_ n4_; (try (have n_ := Aside0.mk (Kd.R_mono (ok' := (fun k_ => some k_ ≠ (v453 : Value).ownBlock)) HO462.out (fun k_ hk => hk.2)); clear HO462; have HO462 := n_; clear n_)); (try (obtain ⟨hy26_, hz26_⟩ := Kd.R_celln false HO462.out (0 : Int) (by omega) (of_decide_eq_true (by first | (with_reducible assumption) | assumption)))); (try (try simp only [Int.reduceToNat, Int.toNat_zero, Int.toNat_ofNat, Nat.reduceMul, Nat.zero_mul, Nat.zero_add] at hy26_ hz26_)); (try (try rw [show ((0 : Int)).toNat = 0 from rfl] at hy26_)); (try (try rw [show ((0 : Int)).toNat = 0 from rfl] at hz26_)); (try (have HP26 := Kd.R_putg HO462.out (0 : Int) true)))); refine store_event (t := 4) (p := 56) (v := ?vo_w27) (w1 := (w25.setCell ⟨go17, (0 : Int).toNat, none⟩ (.bool true))) ?hg ?ho ?hn ?hr ?_; (case ho => rfl); (case hg => rfl); (case hn => rfl); (case hr => first | (go_simp; done) | (go_simp; rfl)); intro w27 hw; have hg : w25.grownBy w27 (some go17) := (by rw [hw]; exact HP26.2); have hp_ : Kd.R Kd.bool 4 w27 w.heap.size (fun k_ => some k_ ≠ (v453 : Value).ownBlock) (.slice (some ⟨go17, 0, none⟩) y460.length co17) y465 := (by rw [hw, Ny465.out]; exact HP26.1); clear HP26; have n0_ := Aside0.mk (Kd.R_after (v := (.slice (some ⟨go17, 0, none⟩) y460.length co17)) (v1 := (.slice (some ⟨go17, 0, none⟩) y460.length co17)) (ok := (fun _ => True)) (by (with_reducible repeat (first | apply Kd.R_alloc | apply Kd.R_drewN | apply Kd.R_drew)); exact HO454.out) hg (.inl rfl)); have n1_ := Aside0.mk (Kd.R_over' (v := (.slice (some ⟨go17, 0, none⟩) y460.length co17)) (by (with_reducible repeat (first | apply Kd.R_alloc | apply Kd.R_drewN | apply Kd.R_drew)); exact HO456.out) (Kd.R_typed HO462.out) (by decide) hg); have n2_ := Aside0.mk (Kd.R_over' (v := (.slice (some ⟨go17, 0, none⟩) y460.length co17)) (by (with_reducible repeat (first | apply Kd.R_alloc | apply Kd.R_drewN | apply Kd.R_drew)); exact HO459.out) (Kd.R_typed HO462.out) (by decide) hg); have n3_ := Aside0.mk (hp_); have n4_ := Aside0.mk ((by rw [hw]; exact below_set (HB.out) GB17.out : Below w.heap.size w w27)); clear HO454; clear HO456; clear HO459; clear HO462; clear HB; have HO454 := n0_; have HO456 := n1_; have HO459 := n2_; have HO462 := n3_; have HB := n4_; clear n0_ n1_ n2_ n3_ n4_; clear hg hw hp_; have p466 : 0 ≤ (0 : Int) := (by omega); have q466 : 0 < (l1.length : Int) := of_decide_eq_true (by first | (with_reducible assumption) | assumption); obtain ⟨ad466, e466, hx466_0⟩ := Kd.at_int HR1.out 0 p466 q466; obtain rfl : ad463 = ad466 := (by injection e466); have qi466 : (0 < l1.length) = True := eq_true (by omega); (try rw [show ((0 : Int)).toNat = 0 from rfl] at hx466_0); (try rw [Addr.add_zero'] at hx466_0); replace hx466_0 := (HB.out.cell (World.block_lt_of_cell? w _ hx466_0)).trans hx466_0; replace p466 := eq_true p466; replace q466 := eq_true q466)))
              go_ret2
              exact ⟨by first | rfl | (simp [errW_none, errW_some] <;> rfl) | (simp [*, errW_none, errW_some] <;> rfl), by repeat (first | (with_reducible first | exact HB.out | apply below_alloc | apply pw_below_drewN | apply below_drew1) | exact HB.out)⟩
             ·rw [if_neg c18] at H
              have c18b0 : decide (4611686018427387904 < (rd l1 0)) = false := decide_eq_false c18
              clear c18
              have H' := Aside0.mk H
              clear H
              go_wp2_with (first | (go_at_call 19; (with_reducible refine (pianolaref08_Walk.calls _ _ l0 (-1) t451 t452 _ ?side1 ?side2 A9.out).mono ?_); (case side1 => repeat (first | exact (Kd.C_below HR0.out HB.out) | (with_reducible refine Kd.C_alloc ?_ _) | (with_reducible refine Kd.C_drewN ?_ _) | (with_reducible refine Kd.C_drew ?_))); (case side2 => exact HC0.out); rintro e w28 ⟨v453, v455, rfl, ho0, ho1, hb⟩; have n0_ := Aside0.mk (Kd.R_lower ho0 (below_size (by repeat (first | (with_reducible first | exact HB.out | apply below_alloc | apply pw_below_drewN | apply below_drew1) | exact HB.out)))); have n1_ := Aside0.mk (Kd.R_lower ho1 (below_size (by repeat (first | (with_reducible first | exact HB.out | apply below_alloc | apply pw_below_drewN | apply below_drew1) | exact HB.out)))); have n2_ := Aside0.mk (below_step (by repeat (first | (with_reducible first | exact HB.out | apply below_alloc | apply pw_below_drewN | apply below_drew1) | exact HB.out)) hb); clear HB; have HO454 := n0_; have HO456 := n1_; have HB := n2_; clear n0_ n1_ n2_; (try clear hb); (try clear hb2); (try clear hk); (try clear hi); (try clear ho0); (try clear ho1)) | ((with_reducible refine gate_dst (N := 46) rfl ?_); refine Kd.R_make (Kd.int .i64) _ 3 rfl (N := 46) rfl 23 _ _ rfl (l0.length : Int) rfl rfl Try.underlying23 (.int .i64 0) 8 info3 rfl (by decide) (by omega) 0 (ok := fun _ => True) (okp := fun _ => True) rfl (fun _ hk => hk) trivial (of_decide_eq_true (by first | (with_reducible assumption) | assumption)) (Nat.le_trans (Nat.mul_le_mul_right _ (of_decide_eq_true (by first | (with_reducible assumption) | assumption) : (l0.length : Int).toNat ≤ 35184372088832)) (by omega)) (Below.refl _ _) (Nat.le_refl _) ?_; intro v458 w29 ho30 hb hg_ hnew_; clear hg_ hnew_; (first | rw [← Ny457.out] at ho30 | (simp only [Int.reduceToNat] at ho30; rw [← Ny457.out] at ho30)); have n0_ := Aside0.mk (Kd.R_below (by (with_reducible repeat (first | apply Kd.R_alloc | apply Kd.R_drewN | apply Kd.R_drew)); exact HO454.out) hb); have n1_ := Aside0.mk (Kd.R_elder' (by (with_reducible repeat (first | apply Kd.R_alloc | apply Kd.R_drewN | apply Kd.R_drew)); exact HO456.out) (Kd.R_base ho30) hb); have n2_ := Aside0.mk (Kd.R_lower (Kd.R_new' ho30 (Kd.R_lt (by (with_reducible repeat (first | apply Kd.R_alloc | apply Kd.R_drewN | apply Kd.R_drew)); exact HO456.out))) (below_size (by repeat (first | (with_reducible first | exact HB.out | apply below_alloc | apply pw_below_drewN | apply below_drew1) | exact HB.out)))); have n3_ := Aside0.mk (below_step (by repeat (first | (with_reducible first | exact HB.out | apply below_alloc | apply pw_below_drewN | apply below_drew1) | exact HB.out)) hb); clear HO454; clear HO456; clear HB; have HO454 := n0_; have HO456 := n1_; have HO459 := n2_; have HB := n3_; clear n0_ n1_ n2_ n3_; clear hb ho30) | ((with_reducible refine gate_dst (N := 49) rfl ?_); refine Kd.R_make Kd.bool _ 4 rfl (N := 49) rfl 36 _ _ rfl (l0.length : Int) rfl rfl Try.underlying36 (.bool false) 1 info4 rfl (by decide) (by omega) false (ok := fun _ => True) (okp := fun _ => True) rfl (fun _ hk => hk) trivial (of_decide_eq_true (by first | (with_reducible assumption) | assumption)) (Nat.le_trans (Nat.mul_le_mul_right _ (of_decide_eq_true (by first | (with_reducible assumption) | assumption) : (l0.length : Int).toNat ≤ 281474976710656)) (by omega)) (Below.refl _ _) (Nat.le_refl _) ?_; intro v461 w31 ho32 hb hg_ hnew_; clear hg_ hnew_; (first | rw [← Ny460.out] at ho32 | (simp only [Int.reduceToNat] at ho32; rw [← Ny460.out] at ho32)); have n0_ := Aside0.mk (Kd.R_elder' (by (with_reducible repeat (first | apply Kd.R_alloc | apply Kd.R_drewN | apply Kd.R_drew)); exact HO454.out) (Kd.R_base ho32) hb); have n1_ := Aside0.mk (Kd.R_below (by (with_reducible repeat (first | apply Kd.R_alloc | apply Kd.R_drewN | apply Kd.R_drew)); exact HO456.out) hb); have n2_ := Aside0.mk (Kd.R_below (by (with_reducible repeat (first | apply Kd.R_alloc | apply Kd.R_drewN | apply Kd.R_drew)); exact HO459.out) hb); have n3_ := Aside0.mk (Kd.R_lower (Kd.R_new' ho32 (Kd.R_lt (by (with_reducible repeat (first | apply Kd.R_alloc | apply Kd.R_drewN | apply Kd.R_drew)); exact HO454.out))) (below_size (by repeat (first | (with_reducible first | exact HB.out | apply below_alloc | apply pw_below_drewN | apply below_drew1) | exact HB.out)))); have n4_ := Aside0.mk (below_step (by repeat (first | (with_reducible first | exact HB.out | apply below_alloc | apply pw_below_drewN | apply below_drew1) | exact HB.out)) hb); clear HO454; clear HO456; clear HO459; clear HB; have HO454 := n0_; have HO456 := n1_; have HO459 := n2_; have HO462 := n3_; have HB := n4_; clear n0_ n1_ n2_ n3_ n4_; clear hb ho32; have p463 : 0 ≤ (0 : Int) := (by omega); have q463 : 0 < (l1.length : Int) := of_decide_eq_true (by first | (with_reducible assumption) | assumption); obtain ⟨ad463, e463, hx463_0⟩ := Kd.at_int HR1.out 0 p463 q463; cases e463; have qi463 : (0 < l1.length) = True := eq_true (by omega); (try rw [show ((0 : Int)).toNat = 0 from rfl] at hx463_0); (try rw [Addr.add_zero'] at hx463_0); replace hx463_0 := (HB.out.cell (World.block_lt_of_cell? w _ hx463_0)).trans hx463_0; replace p463 := eq_true p463; replace q463 := eq_true q463; have p15 : 0 ≤ (0 : Int) := (by omega); have q15 : (0 : Int) < ((y457.length : Int) : Int) := of_decide_eq_true (by first | (with_reducible assumption) | assumption); have qi15 : (0 < y457.length) = True := eq_true (by omega); obtain ⟨go15, co15, eo15, gb15, gl15, cl15, HG15⟩ := Kd.R_form HO459.out (by omega); (first | cases eo15 | (injection eo15 with ea_ en_ ec_; (first | subst ea_ | (injection ea_ with ea_; subst ea_)); subst ec_; clear en_)); have GB15 := Aside0.mk gb15; have GG15 := Aside0.mk HG15; clear gb15 gl15 HG15; obtain ⟨hx15_0, hf15_0⟩ := Kd.R_celln 0 HO459.out (0 : Int) p15 q15; (try rw [show ((0 : Int)).toNat = 0 from rfl] at hx15_0); (try simp only [Nat.reduceMul, Nat.zero_mul, Nat.zero_add, Nat.reduceAdd] at hx15_0); (try rw [show ((0 : Int)).toNat = 0 from rfl] at hf15_0); (try simp only [Nat.reduceMul, Nat.zero_mul, Nat.zero_add, Nat.reduceAdd] at hf15_0); replace p15 := eq_true p15; replace q15 := eq_true q15; have n_ := Aside0.mk (Kd.R_mono (ok' := (fun k_ => some k_ ≠ (v455 : Value).ownBlock)) HO459.out (fun k_ hk => hk.2)); clear HO459; have HO459 := n_; clear n_; obtain ⟨hy33_, hz33_⟩ := Kd.R_celln 0 HO459.out (0 : Int) (by omega) (of_decide_eq_true (by first | (with_reducible assumption) | assumption)); (try simp only [Int.reduceToNat, Int.toNat_zero, Int.toNat_ofNat, Nat.reduceMul, Nat.zero_mul, Nat.zero_add] at hy33_ hz33_); (try rw [show ((0 : Int)).toNat = 0 from rfl] at hy33_); (try rw [show ((0 : Int)).toNat = 0 from rfl] at hz33_); have HP33 := Kd.R_putg HO459.out (0 : Int) (rd l1 0)) | ((with_reducible refine gate_store (t := 3) (p := 55) rfl ?_); (try (rw [drewN_self w31]; generalize hq_ : World.drewN w31 _ = w31; have n0_ := Aside0.mk (Kd.R_at hq_ HO454.out); have n1_ := Aside0.mk (Kd.R_at hq_ HO456.out); have n2_ := Aside0.mk (Kd.R_at hq_ HO459.out); have n3_ := Aside0.mk (Kd.R_at hq_ HO462.out); have n4_ := Aside0.mk (below_at hq_ HB.out); clear hq_ HO454 HO456 HO459 HO462 HB; have HO454 := n0_; have HO456 := n1_; have HO459 := n2_; have HO462 := n3_; have HB := n4_; clear n0_ n1_ n2_ n3_ n4_; (try (have n_ := Aside0.mk (Kd.R_mono (ok' := (fun k_ => some k_ ≠ (v455 : Value).ownBlock)) HO459.out (fun k_ hk => hk.2)); clear HO459; have HO459 := n_; clear n_)); (try (obtain ⟨hy33_, hz33_⟩ := Kd.R_celln 0 HO459.out (0 : Int) (by omega) (of_decide_eq_true (by first | (with_reducible assumption) | assumption)))); (try (try simp only [Int.reduceToNat, Int.toNat_zero, Int.toNat_ofNat, Nat.reduceMul, Nat.zero_mul, Nat.zero_add] at hy33_ hz33_)); (try (try rw [show ((0 : Int)).toNat = 0 from rfl] at hy33_)); (try (try rw [show ((0 : Int)).toNat = 0 from rfl] at hz33_)); (try (have HP33 := Kd.R_putg HO459.out (0 : Int) (rd l1 0))))); refine store_event (t := 3) (p := 55) (v := ?vo_w34) (w1 := (w31.setCell ⟨go15, (0 : Int).toNat, none⟩ (.int .i64 (rd l1 0)))) ?hg ?ho ?hn ?hr ?_; (case ho => rfl); (case hg => rfl); (case hn => rfl); (case hr => first | (go_simp; done) | (go_simp; rfl)); intro w34 hw; have hg : w31.grownBy w34 (some go15) := (by rw [hw]; exact HP33.2); have hp_ : Kd.R (Kd.int .i64) 3 w34 w.heap.size (fun k_ => some k_ ≠ (v455 : Value).ownBlock) (.slice (some ⟨go15, 0, none⟩) y457.length co15) y464 := (by rw [hw, Ny464.out]; exact HP33.1); clear HP33; have n0_ := Aside0.mk (Kd.R_over' (v := (.slice (some ⟨go15, 0, none⟩) y457.length co15)) (by (with_reducible repeat (first | apply Kd.R_alloc | apply Kd.R_drewN | apply Kd.R_drew)); exact HO454.out) (Kd.R_typed HO459.out) (by decide) hg); have n1_ := Aside0.mk (Kd.R_after (v := (.slice (some ⟨go15, 0, none⟩) y457.length co15)) (v1 := (.slice (some ⟨go15, 0, none⟩) y457.length co15)) (ok := (fun _ => True)) (by (with_reducible repeat (first | apply Kd.R_alloc | apply Kd.R_drewN | apply Kd.R_drew)); exact HO456.out) hg (.inl rfl)); have n2_ := Aside0.mk (hp_); have n3_ := Aside0.mk (Kd.R_over' (v := (.slice (some ⟨go15, 0, none⟩) y457.length co15)) (by (with_reducible repeat (first | apply Kd.R_alloc | apply Kd.R_drewN | apply Kd.R_drew)); exact HO462.out) (Kd.R_typed HO459.out) (by decide) hg); have n4_ := Aside0.mk ((by rw [hw]; exact below_set (HB.out) GB15.out : Below w.heap.size w w34)); clear HO454; clear HO456; clear HO459; clear HO462; clear HB; have HO454 := n0_; have HO456 := n1_; have HO459 := n2_; have HO462 := n3_; have HB := n4_; clear n0_ n1_ n2_ n3_ n4_; clear hg hw hp_; have p17 : 0 ≤ (0 : Int) := (by omega); have q17 : (0 : Int) < ((y460.length : Int) : Int) := of_decide_eq_true (by first | (with_reducible assumption) | assumption); have qi17 : (0 < y460.length) = True := eq_true (by omega); obtain ⟨go17, co17, eo17, gb17, gl17, cl17, HG17⟩ := Kd.R_form HO462.out (by omega); (first | cases eo17 | (injection eo17 with ea_ en_ ec_; (first | subst ea_ | (injection ea_ with ea_; subst ea_)); subst ec_; clear en_)); have GB17 := Aside0.mk gb17; have GG17 := Aside0.mk HG17; clear gb17 gl17 HG17; obtain ⟨hx17_0, hf17_0⟩ := Kd.R_celln false HO462.out (0 : Int) p17 q17; (try rw [show ((0 : Int)).toNat = 0 from rfl] at hx17_0); (try simp only [Nat.reduceMul, Nat.zero_mul, Nat.zero_add, Nat.reduceAdd] at hx17_0); (try rw [show ((0 : Int)).toNat = 0 from rfl] at hf17_0); (try simp only [Nat.reduceMul, Nat.zero_mul, Nat.zero_add, Nat.reduceAdd] at hf17_0); replace p17 := eq_true p17; replace q17 := eq_true q17; have n_ := Aside0.mk (Kd.R_mono (ok' := (fun k_ => some k_ ≠ (v453 : Value).ownBlock)) HO462.out (fun k_ hk => hk.2)); clear HO462; have HO462 := n_; clear n_; obtain ⟨hy35_, hz35_⟩ := Kd.R_celln false HO462.out (0 : Int) (by omega) (of_decide_eq_true (by first | (with_reducible assumption) | assumption)); (try simp only [Int.reduceToNat, Int.toNat_zero, Int.toNat_ofNat, Nat.reduceMul, Nat.zero_mul, Nat.zero_add] at hy35_ hz35_); (try rw [show ((0 : Int)).toNat = 0 from rfl] at hy35_); (try rw [show ((0 : Int)).toNat = 0 from rfl] at hz35_); have HP35 := Kd.R_putg HO462.out (0 : Int) true) | ((with_reducible refine gate_store (t := 4) (p := 56) rfl ?_); (try (rw [drewN_self w34]; generalize hq_ : World.drewN w34 _ = w34; have n0_ := Aside0.mk (Kd.R_at hq_ HO454.out); have n1_ := Aside0.mk (Kd.R_at hq_ HO456.out); have n2_ := Aside0.mk (Kd.R_at hq_ HO459.out); have n3_ := Aside0.mk (Kd.R_at hq_ HO462.out); have n4_ := Aside0.mk (below_at hq_ HB.out); clear hq_ HO454 HO456 HO459 HO462 HB; have HO454 := n0_; have HO456 := n1_; have HO459 := n2_; have HO462 := n3_; have HB := n4_; clear n0_ n1_ n2_ n3_ n4_; (try (have n_ := Aside0.mk (Kd.R_mono (ok' := (fun k_ => some k_ ≠ (v453 : Value).ownBlock)) HO462.out (fun k_ hk => hk.2)); clear HO462; have HO462 := n_; clear n_)); (try (obtain ⟨hy35_, hz35_⟩ := Kd.R_celln false HO462.out (0 : Int) (by omega) (of_decide_eq_true (by first | (with_reducible assumption) | assumption)))); (try (try simp only [Int.reduceToNat, Int.toNat_zero, Int.toNat_ofNat, Nat.reduceMul, Nat.zero_mul, Nat.zero_add] at hy35_ hz35_)); (try (try rw [show ((0 : Int)).toNat = 0 from rfl] at hy35_)); (try (try rw [show ((0 : Int)).toNat = 0 from rfl] at hz35_)); (try (have HP35 := Kd.R_putg HO462.out (0 : Int) true)))); refine store_event (t := 4) (p := 56) (v := ?vo_w36) (w1 := (w34.setCell ⟨go17, (0 : Int).toNat, none⟩ (.bool true))) ?hg ?ho ?hn ?hr ?_; (case ho => rfl); (case hg => rfl); (case hn => rfl); (case hr => first | (go_simp; done) | (go_simp; rfl)); intro w36 hw; have hg : w34.grownBy w36 (some go17) := (by rw [hw]; exact HP35.2); have hp_ : Kd.R Kd.bool 4 w36 w.heap.size (fun k_ => some k_ ≠ (v453 : Value).ownBlock) (.slice (some ⟨go17, 0, none⟩) y460.length co17) y465 := (by rw [hw, Ny465.out]; exact HP35.1); clear HP35; have n0_ := Aside0.mk (Kd.R_after (v := (.slice (some ⟨go17, 0, none⟩) y460.length co17)) (v1 := (.slice (some ⟨go17, 0, none⟩) y460.length co17)) (ok := (fun _ => True)) (by (with_reducible repeat (first | apply Kd.R_alloc | apply Kd.R_drewN | apply Kd.R_drew)); exact HO454.out) hg (.inl rfl)); have n1_ := Aside0.mk (Kd.R_over' (v := (.slice (some ⟨go17, 0, none⟩) y460.length co17)) (by (with_reducible repeat (first | apply Kd.R_alloc | apply Kd.R_drewN | apply Kd.R_drew)); exact HO456.out) (Kd.R_typed HO462.out) (by decide) hg); have n2_ := Aside0.mk (Kd.R_over' (v := (.slice (some ⟨go17, 0, none⟩) y460.length co17)) (by (with_reducible repeat (first | apply Kd.R_alloc | apply Kd.R_drewN | apply Kd.R_drew)); exact HO459.out) (Kd.R_typed HO462.out) (by decide) hg); have n3_ := Aside0.mk (hp_); have n4_ := Aside0.mk ((by rw [hw]; exact below_set (HB.out) GB17.out : Below w.heap.size w w36)); clear HO454; clear HO456; clear HO459; clear HO462; clear HB; have HO454 := n0_; have HO456 := n1_; have HO459 := n2_; have HO462 := n3_; have HB := n4_; clear n0_ n1_ n2_ n3_ n4_; clear hg hw hp_; have p466 : 0 ≤ (0 : Int) := (by omega); have q466 : 0 < (l1.length : Int) := of_decide_eq_true (by first | (with_reducible assumption) | assumption); obtain ⟨ad466, e466, hx466_0⟩ := Kd.at_int HR1.out 0 p466 q466; obtain rfl : ad463 = ad466 := (by injection e466); have qi466 : (0 < l1.length) = True := eq_true (by omega); (try rw [show ((0 : Int)).toNat = 0 from rfl] at hx466_0); (try rw [Addr.add_zero'] at hx466_0); replace hx466_0 := (HB.out.cell (World.block_lt_of_cell? w _ hx466_0)).trans hx466_0; replace p466 := eq_true p466; replace q466 := eq_true q466; have p467 : 0 ≤ (0 : Int) := (by omega); have q467 : 0 < (l1.length : Int) := of_decide_eq_true (by first | (with_reducible assumption) | assumption); obtain ⟨ad467, e467, hx467_0⟩ := Kd.at_int HR1.out 0 p467 q467; obtain rfl : ad463 = ad467 := (by injection e467); have qi467 : (0 < l1.length) = True := eq_true (by omega); (try rw [show ((0 : Int)).toNat = 0 from rfl] at hx467_0); (try rw [Addr.add_zero'] at hx467_0); replace hx467_0 := (HB.out.cell (World.block_lt_of_cell? w _ hx467_0)).trans hx467_0; replace p467 := eq_true p467; replace q467 := eq_true q467))
              repeat (go_quiet (first | (go_at_call 19; (with_reducible refine (pianolaref08_Walk.calls _ _ l0 (-1) t451 t452 _ ?side1 ?side2 A9.out).mono ?_); (case side1 => repeat (first | exact (Kd.C_below HR0.out HB.out) | (with_reducible refine Kd.C_alloc ?_ _) | (with_reducible refine Kd.C_drewN ?_ _) | (with_reducible refine Kd.C_drew ?_))); (case side2 => exact HC0.out); rintro e w28 ⟨v453, v455, rfl, ho0, ho1, hb⟩; have n0_ := Aside0.mk (Kd.R_lower ho0 (below_size (by repeat (first | (with_reducible first | exact HB.out | apply below_alloc | apply pw_below_drewN | apply below_drew1) | exact HB.out)))); have n1_ := Aside0.mk (Kd.R_lower ho1 (below_size (by repeat (first | (with_reducible first | exact HB.out | apply below_alloc | apply pw_below_drewN | apply below_drew1) | exact HB.out)))); have n2_ := Aside0.mk (below_step (by repeat (first | (with_reducible first | exact HB.out | apply below_alloc | apply pw_below_drewN | apply below_drew1) | exact HB.out)) hb); clear HB; have HO454 := n0_; have HO456 := n1_; have HB := n2_; clear n0_ n1_ n2_; (try clear hb); (try clear hb2); (try clear hk); (try clear hi); (try clear ho0); (try clear ho1)) | ((with_reducible refine gate_dst (N := 46) rfl ?_); refine Kd.R_make (Kd.int .i64) _ 3 rfl (N := 46) rfl 23 _ _ rfl (l0.length : Int) rfl rfl Try.underlying23 (.int .i64 0) 8 info3 rfl (by decide) (by omega) 0 (ok := fun _ => True) (okp := fun _ => True) rfl (fun _ hk => hk) trivial (of_decide_eq_true (by first | (with_reducible assumption) | assumption)) (Nat.le_trans (Nat.mul_le_mul_right _ (of_decide_eq_true (by first | (with_reducible assumption) | assumption) : (l0.length : Int).toNat ≤ 35184372088832)) (by omega)) (Below.refl _ _) (Nat.le_refl _) ?_; intro v458 w29 ho30 hb hg_ hnew_; clear hg_ hnew_; (first | rw [← Ny457.out] at ho30 | (simp only [Int.reduceToNat] at ho30; rw [← Ny457.out] at ho30)); have n0_ := Aside0.mk (Kd.R_below (by (with_reducible repeat (first | apply Kd.R_alloc | apply Kd.R_drewN | apply Kd.R_drew)); exact HO454.out) hb); have n1_ := Aside0.mk (Kd.R_elder' (by (with_reducible repeat (first | apply Kd.R_alloc | apply Kd.R_drewN | apply Kd.R_drew)); exact HO456.out) (Kd.R_base ho30) hb); have n2_ := Aside0.mk (Kd.R_lower (Kd.R_new' ho30 (Kd.R_lt (by (with_reducible repeat (first | apply Kd.R_alloc | apply Kd.R_drewN | apply Kd.R_drew)); exact HO456.out))) (below_size (by repeat (first | (with_reducible first | exact HB.out | apply below_alloc | apply pw_below_drewN | apply below_drew1) | exact HB.out)))); have n3_ := Aside0.mk (below_step (by repeat (first | (with_reducible first | exact HB.out | apply below_alloc | apply pw_below_drewN | apply below_drew1) | exact HB.out)) hb); clear HO454; clear HO456; clear HB; have HO454 := n0_; have HO456 := n1_; have HO459 := n2_; have HB := n3_; clear n0_ n1_ n2_ n3_; clear hb ho30) | ((with_reducible refine gate_dst (N := 49) rfl ?_); refine Kd.R_make Kd.bool _ 4 rfl (N := 49) rfl 36 _ _ rfl (l0.length : Int) rfl rfl Try.underlying36 (.bool false) 1 info4 rfl (by decide) (by omega) false (ok := fun _ => True) (okp := fun _ => True) rfl (fun _ hk => hk) trivial (of_decide_eq_true (by first | (with_reducible assumption) | assumption)) (Nat.le_trans (Nat.mul_le_mul_right _ (of_decide_eq_true (by first | (with_reducible assumption) | assumption) : (l0.length : Int).toNat ≤ 281474976710656)) (by omega)) (Below.refl _ _) (Nat.le_refl _) ?_; intro v461 w31 ho32 hb hg_ hnew_; clear hg_ hnew_; (first | rw [← Ny460.out] at ho32 | (simp only [Int.reduceToNat] at ho32; rw [← Ny460.out] at ho32)); have n0_ := Aside0.mk (Kd.R_elder' (by (with_reducible repeat (first | apply Kd.R_alloc | apply Kd.R_drewN | apply Kd.R_drew)); exact HO454.out) (Kd.R_base ho32) hb); have n1_ := Aside0.mk (Kd.R_below (by (with_reducible repeat (first | apply Kd.R_alloc | apply Kd.R_drewN | apply Kd.R_drew)); exact HO456.out) hb); have n2_ := Aside0.mk (Kd.R_below (by (with_reducible repeat (first | apply Kd.R_alloc | apply Kd.R_drewN | apply Kd.R_drew)); exact HO459.out) hb); have n3_ := Aside0.mk (Kd.R_lower (Kd.R_new' ho32 (Kd.R_lt (by (with_reducible repeat (first | apply Kd.R_alloc | apply Kd.R_drewN | apply Kd.R_drew)); exact HO454.out))) (below_size (by repeat (first | (with_reducible first | exact HB.out | apply below_alloc | apply pw_below_drewN | apply below_drew1) | exact HB.out)))); have n4_ := Aside0.mk (below_step (by repeat (first | (with_reducible first | exact HB.out | apply below_alloc | apply pw_below_drewN | apply below_drew1) | exact HB.out)) hb); clear HO454; clear HO456; clear HO459; clear HB; have HO454 := n0_; have HO456 := n1_; have HO459 := n2_; have HO462 := n3_; have HB := n4_; clear n0_ n1_ n2_ n3_ n4_; clear hb ho32; have p463 : 0 ≤ (0 : Int) := (by omega); have q463 : 0 < (l1.length : Int) := of_decide_eq_true (by first | (with_reducible assumption) | assumption); obtain ⟨ad463, e463, hx463_0⟩ := Kd.at_int HR1.out 0 p463 q463; cases e463; have qi463 : (0 < l1.length) = True := eq_true (by omega); (try rw [show ((0 : Int)).toNat = 0 from rfl] at hx463_0); (try rw [Addr.add_zero'] at hx463_0); replace hx463_0 := (HB.out.cell (World.block_lt_of_cell? w _ hx463_0)).trans hx463_0; replace p463 := eq_true p463; replace q463 := eq_true q463; have p15 : 0 ≤ (0 : Int) := (by omega); have q15 : (0 : Int) < ((y457.length : Int) : Int) := of_decide_eq_true (by first | (with_reducible assumption) | assumption); have qi15 : (0 < y457.length) = True := eq_true (by omega); obtain ⟨go15, co15, eo15, gb15, gl15, cl15, HG15⟩ := Kd.R_form HO459.out (by omega); (first | cases eo15 | (injection eo15 with ea_ en_ ec_; (first | subst ea_ | (injection ea_ with ea_; subst ea_)); subst ec_; clear en_)); have GB15 := Aside0.mk gb15; have GG15 := Aside0.mk HG15; clear gb15 gl15 HG15; obtain ⟨hx15_0, hf15_0⟩ := Kd.R_celln 0 HO459.out (0 : Int) p15 q15; (try rw [show ((0 : Int)).toNat = 0 from rfl] at hx15_0); (try simp only [Nat.reduceMul, Nat.zero_mul, Nat.zero_add, Nat.reduceAdd] at hx15_0); (try rw [show ((0 : Int)).toNat = 0 from rfl] at hf15_0); (try simp only [Nat.reduceMul, Nat.zero_mul, Nat.zero_add, Nat.reduceAdd] at hf15_0); replace p15 := eq_true p15; replace q15 := eq_true q15; have n_ := Aside0.mk (Kd.R_mono (ok' := (fun k_ => some k_ ≠ (v455 : Value).ownBlock)) HO459.out (fun k_ hk => hk.2)); clear HO459; have HO459 := n_; clear n_; obtain ⟨hy33_, hz33_⟩ := Kd.R_celln 0 HO459.out (0 : Int) (by omega) (of_decide_eq_true (by first | (with_reducible assumption) | assumption)); (try simp only [Int.reduceToNat, Int.toNat_zero, Int.toNat_ofNat, Nat.reduceMul, Nat.zero_mul, Nat.zero_add] at hy33_ hz33_); (try rw [show ((0 : Int)).toNat = 0 from rfl] at hy33_); (try rw [show ((0 : Int)).toNat = 0 from rfl] at hz33_); have HP33 := Kd.R_putg HO459.out (0 : Int) (rd l1 0)) | ((with_reducible refine gate_store (t := 3) (p := 55) rfl ?_); (try (rw [drewN_self w31]; generalize hq_ : World.drewN w31 _ = w31; have n0_ := Aside0.mk (Kd.R_at hq_ HO454.out); have n1_ := Aside0.mk (Kd.R_at hq_ HO456.out); have n2_ := Aside0.mk (Kd.R_at hq_ HO459.out); have n3_ := Aside0.mk (Kd.R_at hq_ HO462.out); have n4_ := Aside0.mk (below_at hq_ HB.out); clear hq_ HO454 HO456 HO459 HO462 HB; have HO454 := n0_; have HO456 := n1_; have HO459 := n2_; have HO462 := n3_; have HB := n4_; clear n0_ n1_ n2_ n3_ n4_; (try (have n_ := Aside0.mk (Kd.R_mono (ok' := (fun k_ => some k_ ≠ (v455 : Value).ownBlock)) HO459.out (fun k_ hk => hk.2)); clear HO459; have HO459 := n_; clear n_)); (try (obtain ⟨hy33_, hz33_⟩ := Kd.R_celln 0 HO459.out (0 : Int) (by omega) (of_decide_eq_true (by first | (with_reducible assumption) | assumption)))); (try (try simp only [Int.reduceToNat, Int.toNat_zero, Int.toNat_ofNat, Nat.reduceMul, Nat.zero_mul, Nat.zero_add] at hy33_ hz33_)); (try (try rw [show ((0 : Int)).toNat = 0 from rfl] at hy33_)); (try (try rw [show ((0 : Int)).toNat = 0 from rfl] at hz33_)); (try (have HP33 := Kd.R_putg HO459.out (0 : Int) (rd l1 0))))); refine store_event (t := 3) (p := 55) (v := ?vo_w34) (w1 := (w31.setCell ⟨go15, (0 : Int).toNat, none⟩ (.int .i64 (rd l1 0)))) ?hg ?ho ?hn ?hr ?_; (case ho => rfl); (case hg => rfl); (case hn => rfl); (case hr => first | (go_simp; done) | (go_simp; rfl)); intro w34 hw; have hg : w31.grownBy w34 (some go15) := (by rw [hw]; exact HP33.2); have hp_ : Kd.R (Kd.int .i64) 3 w34 w.heap.size (fun k_ => some k_ ≠ (v455 : Value).ownBlock) (.slice (some ⟨go15, 0, none⟩) y457.length co15) y464 := (by rw [hw, Ny464.out]; exact HP33.1); clear HP33; have n0_ := Aside0.mk (Kd.R_over' (v := (.slice (some ⟨go15, 0, none⟩) y457.length co15)) (by (with_reducible repeat (first | apply Kd.R_alloc | apply Kd.R_drewN | apply Kd.R_drew)); exact HO454.out) (Kd.R_typed HO459.out) (by decide) hg); have n1_ := Aside0.mk (Kd.R_after (v := (.slice (some ⟨go15, 0, none⟩) y457.length co15)) (v1 := (.slice (some ⟨go15, 0, none⟩) y457.length co15)) (ok := (fun _ => True)) (by (with_reducible repeat (first | apply Kd.R_alloc | apply Kd.R_drewN | apply Kd.R_drew)); exact HO456.out) hg (.inl rfl)); have n2_ := Aside0.mk (hp_); have n3_ := Aside0.mk (Kd.R_over' (v := (.slice (some ⟨go15, 0, none⟩) y457.length co15)) (by (with_reducible repeat (first | apply Kd.R_alloc | apply Kd.R_drewN | apply Kd.R_drew)); exact HO462.out) (Kd.R_typed HO459.out) (by decide) hg); have n4_ := Aside0.mk ((by rw [hw]; exact below_set (HB.out) GB15.out : Below w.heap.size w w34)); clear HO454; clear HO456; clear HO459; clear HO462; clear HB; have HO454 := n0_; have HO456 := n1_; have HO459 := n2_; have HO462 := n3_; have HB := n4_; clear n0_ n1_ n2_ n3_ n4_; clear hg hw hp_; have p17 : 0 ≤ (0 : Int) := (by omega); have q17 : (0 : Int) < ((y460.length : Int) : Int) := of_decide_eq_true (by first | (with_reducible assumption) | assumption); have qi17 : (0 < y460.length) = True := eq_true (by omega); obtain ⟨go17, co17, eo17, gb17, gl17, cl17, HG17⟩ := Kd.R_form HO462.out (by omega); (first | cases eo17 | (injection eo17 with ea_ en_ ec_; (first | subst ea_ | (injection ea_ with ea_; subst ea_)); subst ec_; clear en_)); have GB17 := Aside0.mk gb17; have GG17 := Aside0.mk HG17; clear gb17 gl17 HG17; obtain ⟨hx17_0, hf17_0⟩ := Kd.R_celln false HO462.out (0 : Int) p17 q17; (try rw [show ((0 : Int)).toNat = 0 from rfl] at hx17_0); (try simp only [Nat.reduceMul, Nat.zero_mul, Nat.zero_add, Nat.reduceAdd] at hx17_0); (try rw [show ((0 : Int)).toNat = 0 from rfl] at hf17_0); (try simp only [Nat.reduceMul, Nat.zero_mul, Nat.zero_add, Nat.reduceAdd] at hf17_0); replace p17 := eq_true p17; replace q17 := eq_true q17; have n_ := Aside0.mk (Kd.R_mono (ok' := (fun k_ => some k_ ≠ (v453 : Value).ownBlock)) HO462.out (fun k_ hk => hk.2)); clear HO462; have HO462 := n_; clear n_; obtain ⟨hy35_, hz35_⟩ := Kd.R_celln false HO462.out (0 : Int) (by omega) (of_decide_eq_true (by first | (with_reducible assumption) | assumption)); (try simp only [Int.reduceToNat, Int.toNat_zero, Int.toNat_ofNat, Nat.reduceMul, Nat.zero_mul, Nat.zero_add] at hy35_ hz35_); (try rw [show ((0 : Int)).toNat = 0 from rfl] at hy35_); (try rw [show ((0 : Int)).toNat = 0 from rfl] at hz35_); have HP35 := Kd.R_putg HO462.out (0 : Int) true) | ((with_reducible refine gate_store (t := 4) (p := 56) rfl ?_); (try (rw [drewN_self w34]; generalize hq_ : World.drewN w34 _ = w34; have n0_ := Aside0.mk (Kd.R_at hq_ HO454.out); have n1_ := Aside0.mk (Kd.R_at hq_ HO456.out); have n2_ := Aside0.mk (Kd.R_at hq_ HO459.out); have n3_ := Aside0.mk (Kd.R_at hq_ HO462.out); have n4_ := Aside0.mk (below_at hq_ HB.out); clear hq_ HO454 HO456 HO459 HO462 HB; have HO454 := n0_; have HO456 := n1_; have HO459 := n2_; have HO462 := n3_; have HB := n4_; clear n0_ n1_ n2_ n3_ n4_; (try (have n_ := Aside0.mk (Kd.R_mono (ok' := (fun k_ => some k_ ≠ (v453 : Value).ownBlock)) HO462.out (fun k_ hk => hk.2)); clear HO462; have HO462 := n_; clear n_)); (try (obtain ⟨hy35_, hz35_⟩ := Kd.R_celln false HO462.out (0 : Int) (by omega) (of_decide_eq_true (by first | (with_reducible assumption) | assumption)))); (try (try simp only [Int.reduceToNat, Int.toNat_zero, Int.toNat_ofNat, Nat.reduceMul, Nat.zero_mul, Nat.zero_add] at hy35_ hz35_)); (try (try rw [show ((0 : Int)).toNat = 0 from rfl] at hy35_)); (try (try rw [show ((0 : Int)).toNat = 0 from rfl] at hz35_)); (try (have HP35 := Kd.R_putg HO462.out (0 : Int) true)))); refine store_event (t := 4) (p := 56) (v := ?vo_w36) (w1 := (w34.setCell ⟨go17, (0 : Int).toNat, none⟩ (.bool true))) ?hg ?ho ?hn ?hr ?_; (case ho => rfl); (case hg => rfl); (case hn => rfl); (case hr => first | (go_simp; done) | (go_simp; rfl)); intro w36 hw; have hg : w34.grownBy w36 (some go17) := (by rw [hw]; exact HP35.2); have hp_ : Kd.R Kd.bool 4 w36 w.heap.size (fun k_ => some k_ ≠ (v453 : Value).ownBlock) (.slice (some ⟨go17, 0, none⟩) y460.length co17) y465 := (by rw [hw, Ny465.out]; exact HP35.1); clear HP35; have n0_ := Aside0.mk (Kd.R_after (v := (.slice (some ⟨go17, 0, none⟩) y460.length co17)) (v1 := (.slice (some ⟨go17, 0, none⟩) y460.length co17)) (ok := (fun _ => True)) (by (with_reducible repeat (first | apply Kd.R_alloc | apply Kd.R_drewN | apply Kd.R_drew)); exact HO454.out) hg (.inl rfl)); have n1_ := Aside0.mk (Kd.R_over' (v := (.slice (some ⟨go17, 0, none⟩) y460.length co17)) (by (with_reducible repeat (first | apply Kd.R_alloc | apply Kd.R_drewN | apply Kd.R_drew)); exact HO456.out) (Kd.R_typed HO462.out) (by decide) hg); have n2_ := Aside0.mk (Kd.R_over' (v := (.slice (some ⟨go17, 0, none⟩) y460.length co17)) (by (with_reducible repeat (first | apply Kd.R_alloc | apply Kd.R_drewN | apply Kd.R_drew)); exact HO459.out) (Kd.R_typed HO462.out) (by decide) hg); have n3_ := Aside0.mk (hp_); have n4_ := Aside0.mk ((by rw [hw]; exact below_set (HB.out) GB17.out : Below w.heap.size w w36)); clear HO454; clear HO456; clear HO459; clear HO462; clear HB; have HO454 := n0_; have HO456 := n1_; have HO459 := n2_; have HO462 := n3_; have HB := n4_; clear n0_ n1_ n2_ n3_ n4_; clear hg hw hp_; have p466 : 0 ≤ (0 : Int) := (by omega); have q466 : 0 < (l1.length : Int) := of_decide_eq_true (by first | (with_reducible assumption) | assumption); obtain ⟨ad466, e466, hx466_0⟩ := Kd.at_int HR1.out 0 p466 q466; obtain rfl : ad463 = ad466 := (by injection e466); have qi466 : (0 < l1.length) = True := eq_true (by omega); (try rw [show ((0 : Int)).toNat = 0 from rfl] at hx466_0); (try rw [Addr.add_zero'] at hx466_0); replace hx466_0 := (HB.out.cell (World.block_lt_of_cell? w _ hx466_0)).trans hx466_0; replace p466 := eq_true p466; replace q466 := eq_true q466; have p467 : 0 ≤ (0 : Int) := (by omega); have q467 : 0 < (l1.length : Int) := of_decide_eq_true (by first | (with_reducible assumption) | assumption); obtain ⟨ad467, e467, hx467_0⟩ := Kd.at_int HR1.out 0 p467 q467; obtain rfl : ad463 = ad467 := (by injection e467); have qi467 : (0 < l1.length) = True := eq_true (by omega); (try rw [show ((0 : Int)).toNat = 0 from rfl] at hx467_0); (try rw [Addr.add_zero'] at hx467_0); replace hx467_0 := (HB.out.cell (World.block_lt_of_cell? w _ hx467_0)).trans hx467_0; replace p467 := eq_true p467; replace q467 := eq_true q467)); try go_wp2_with (first | (go_at_call 19; (with_reducible refine (pianolaref08_Walk.calls _ _ l0 (-1) t451 t452 _ ?side1 ?side2 A9.out).mono ?_); (case side1 => repeat (first | exact (Kd.C_below HR0.out HB.out) | (with_reducible refine Kd.C_alloc ?_ _) | (with_reducible refine Kd.C_drewN ?_ _) | (with_reducible refine Kd.C_drew ?_))); (case side2 => exact HC0.out); rintro e w28 ⟨v453, v455, rfl, ho0, ho1, hb⟩; have n0_ := Aside0.mk (Kd.R_lower ho0 (below_size (by repeat (first | (with_reducible first | exact HB.out | apply below_alloc | apply pw_below_drewN | apply below_drew1) | exact HB.out)))); have n1_ := Aside0.mk (Kd.R_lower ho1 (below_size (by repeat (first | (with_reducible first | exact HB.out | apply below_alloc | apply pw_below_drewN | apply below_drew1) | exact HB.out)))); have n2_ := Aside0.mk (below_step (by repeat (first | (with_reducible first | exact HB.out | apply below_alloc | apply pw_below_drewN | apply below_drew1) | exact HB.out)) hb); clear HB; have HO454 := n0_; have HO456 := n1_; have HB := n2_; clear n0_ n1_ n2_; (try clear hb); (try clear hb2); (try clear hk); (try clear hi); (try clear ho0); (try clear ho1)) | ((with_reducible refine gate_dst (N := 46) rfl ?_); refine Kd.R_make (Kd.int .i64) _ 3 rfl (N := 46) rfl 23 _ _ rfl (l0.length : Int) rfl rfl Try.underlying23 (.int .i64 0) 8 info3 rfl (by decide) (by omega) 0 (ok := fun _ => True) (okp := fun _ => True) rfl (fun _ hk => hk) trivial (of_decide_eq_true (by first | (with_reducible assumption) | assumption)) (Nat.le_trans (Nat.mul_le_mul_right _ (of_decide_eq_true (by first | (with_reducible assumption) | assumption) : (l0.length : Int).toNat ≤ 35184372088832)) (by omega)) (Below.refl _ _) (Nat.le_refl _) ?_; intro v458 w29 ho30 hb hg_ hnew_; clear hg_ hnew_; (first | rw [← Ny457.out] at ho30 | (simp only [Int.reduceToNat] at ho30; rw [← Ny457.out] at ho30)); have n0_ := Aside0.mk (Kd.R_below (by (with_reducible repeat (first | apply Kd.R_alloc | apply Kd.R_drewN | apply Kd.R_drew)); exact HO454.out) hb); have n1_ := Aside0.mk (Kd.R_elder' (by (with_reducible repeat (first | apply Kd.R_alloc | apply Kd.R_drewN | apply Kd.R_drew)); exact HO456.out) (Kd.R_base ho30) hb); have n2_ := Aside0.mk (Kd.R_lower (Kd.R_new' ho30 (Kd.R_lt (by (with_reducible repeat (first | apply Kd.R_alloc | apply Kd.R_drewN | apply Kd.R_drew)); exact HO456.out))) (below_size (by repeat (first | (with_reducible first | exact HB.out | apply below_alloc | apply pw_below_drewN | apply below_drew1) | exact HB.out)))); have n3_ := Aside0.mk (below_step (by repeat (first | (with_reducible first | exact HB.out | apply below_alloc | apply pw_below_drewN | apply below_drew1) | exact HB.out)) hb); clear HO454; clear HO456; clear HB; have HO454 := n0_; have HO456 := n1_; have HO459 := n2_; have HB := n3_; clear n0_ n1_ n2_ n3_; clear hb ho30) | ((with_reducible refine gate_dst (N := 49) rfl ?_); refine Kd.R_make Kd.bool _ 4 rfl (N := 49) rfl 36 _ _ rfl (l0.length : Int) rfl rfl Try.underlying36 (.bool false) 1 info4 rfl (by decide) (by omega) false (ok := fun _ => True) (okp := fun _ => True) rfl (fun _ hk => hk) trivial (of_decide_eq_true (by first | (with_reducible assumption) | assumption)) (Nat.le_trans (Nat.mul_le_mul_right _ (of_decide_eq_true (by first | (with_reducible assumption) | assumption) : (l0.length : Int).toNat ≤ 281474976710656)) (by omega)) (Below.refl _ _) (Nat.le_refl _) ?_; intro v461 w31 ho32 hb hg_ hnew_; clear hg_ hnew_; (first | rw [← Ny460.out] at ho32 | (simp only [Int.reduceToNat] at ho32; rw [← Ny460.out] at ho32)); have n0_ := Aside0.mk (Kd.R_elder' (by (with_reducible repeat (first | apply Kd.R_alloc | apply Kd.R_drewN | apply Kd.R_drew)); exact HO454.out) (Kd.R_base ho32) hb); have n1_ := Aside0.mk (Kd.R_below (by (with_reducible repeat (first | apply Kd.R_alloc | apply Kd.R_drewN | apply Kd.R_drew)); exact HO456.out) hb); have n2_ := Aside0.mk (Kd.R_below (by (with_reducible repeat (first | apply Kd.R_alloc | apply Kd.R_drewN | apply Kd.R_drew)); exact HO459.out) hb); have n3_ := Aside0.mk (Kd.R_lower (Kd.R_new' ho32 (Kd.R_lt (by (with_reducible repeat (first | apply Kd.R_alloc | apply Kd.R_drewN | apply Kd.R_drew)); exact HO454.out))) (below_size (by repeat (first | (with_reducible first | exact HB.out | apply below_alloc | apply pw_below_drewN | apply below_drew1) | exact HB.out)))); have n4_ := Aside0.mk (below_step (by repeat (first | (with_reducible first | exact HB.out | apply below_alloc | apply pw_below_drewN | apply below_drew1) | exact HB.out)) hb); clear HO454; clear HO456; clear HO459; clear HB; have HO454 := n0_; have HO456 := n1_; have HO459 := n2_; have HO462 := n3_; have HB := n4_; clear n0_ n1_ n2_ n3_ n4_; clear hb ho32; have p463 : 0 ≤ (0 : Int) := (by omega); have q463 : 0 < (l1.length : Int) := of_decide_eq_true (by first | (with_reducible assumption) | assumption); obtain ⟨ad463, e463, hx463_0⟩ := Kd.at_int HR1.out 0 p463 q463; cases e463; have qi463 : (0 < l1.length) = True := eq_true (by omega); (try rw [show ((0 : Int)).toNat = 0 from rfl] at hx463_0); (try rw [Addr.add_zero'] at hx463_0); replace hx463_0 := (HB.out.cell (World.block_lt_of_cell? w _ hx463_0)).trans hx463_0; replace p463 := eq_true p463; replace q463 := eq_true q463; have p15 : 0 ≤ (0 : Int) := (by omega); have q15 : (0 : Int) < ((y457.length : Int) : Int) := of_decide_eq_true (by first | (with_reducible assumption) | assumption); have qi15 : (0 < y457.length) = True := eq_true (by omega); obtain ⟨go15, co15, eo15, gb15, gl15, cl15, HG15⟩ := Kd.R_form HO459.out (by omega); (first | cases eo15 | (injection eo15 with ea_ en_ ec_; (first | subst ea_ | (injection ea_ with ea_; subst ea_)); subst ec_; clear en_)); have GB15 := Aside0.mk gb15; have GG15 := Aside0.mk HG15; clear gb15 gl15 HG15; obtain ⟨hx15_0, hf15_0⟩ := Kd.R_celln 0 HO459.out (0 : Int) p15 q15; (try rw [show ((0 : Int)).toNat = 0 from rfl] at hx15_0); (try simp only [Nat.reduceMul, Nat.zero_mul, Nat.zero_add, Nat.reduceAdd] at hx15_0); (try rw [show ((0 : Int)).toNat = 0 from rfl] at hf15_0); (try simp only [Nat.reduceMul, Nat.zero_mul, Nat.zero_add, Nat.reduceAdd] at hf15_0); replace p15 := eq_true p15; replace q15 := eq_true q15; have n_ := Aside0.mk (Kd.R_mono (ok' := (fun k_ => some k_ ≠ (v455 : Value).ownBlock)) HO459.out (fun k_ hk => hk.2)); clear HO459; have HO459 := n_; clear n_; obtain ⟨hy33_, hz33_⟩ := Kd.R_celln 0 HO459.out (0 : Int) (by omega) (of_decide_eq_true (by first | (with_reducible assumption) | assumption)); (try simp only [Int.reduceToNat, Int.toNat_zero, Int.toNat_ofNat, Nat.reduceMul, Nat.zero_mul, Nat.zero_add] at hy33_ hz33_); (try rw [show ((0 : Int)).toNat = 0 from rfl] at hy33_); (try rw [show ((0 : Int)).toNat = 0 from rfl] at hz33_); have HP33 := Kd.R_putg HO459.out (0 : Int) (rd l1 0)) | ((with_reducible refine gate_store (t := 3) (p := 55) rfl ?_); (try (rw [drewN_self w31]; generalize hq_ : World.drewN w31 _ = w31; have n0_ := Aside0.mk (Kd.R_at hq_ HO454.out); have n1_ := Aside0.mk (Kd.R_at hq_ HO456.out); have n2_ := Aside0.mk (Kd.R_at hq_ HO459.out); have n3_ := Aside0.mk (Kd.R_at hq_ HO462.out); have n4_ := Aside0.mk (below_at hq_ HB.out); clear hq_ HO454 HO456 HO459 HO462 HB; have HO454 := n0_; have HO456 := n1_; have HO459 := n2_; have HO462 := n3_; have HB := n4_; clear n0_ n1_ n2_ n3_ n4_; (try (have n_ := Aside0.mk (Kd.R_mono (ok' := (fun k_ => some k_ ≠ (v455 : Value).ownBlock)) HO459.out (fun k_ hk => hk.2)); clear HO459; have HO459 := n_; clear n_)); (try (obtain ⟨hy33_, hz33_⟩ := Kd.R_celln 0 HO459.out (0 : Int) (by omega) (of_decide_eq_true (by first | (with_reducible assumption) | assumption)))); (try (try simp only [Int.reduceToNat, Int.toNat_zero, Int.toNat_ofNat, Nat.reduceMul, Nat.zero_mul, Nat.zero_add] at hy33_ hz33_)); (try (try rw [show ((0 : Int)).toNat = 0 from rfl] at hy33_)); (try (try rw [show ((0 : Int)).toNat = 0 from rfl] at hz33_)); (try (have HP33 := Kd.R_putg HO459.out (0 : Int) (rd l1 0))))); refine store_event (t := 3) (p := 55) (v := ?vo_w34) (w1 := (w31.setCell ⟨go15, (0 : Int).toNat, none⟩ (.int .i64 (rd l1 0)))) ?hg ?ho ?hn ?hr ?_; (case ho => rfl); (case hg => rfl); (case hn => rfl); (case hr => first | (go_simp; done) | (go_simp; rfl)); intro w34 hw; have hg : w31.grownBy w34 (some go15) := (by rw [hw]; exact HP33.2); have hp_ : Kd.R (Kd.int .i64) 3 w34 w.heap.size (fun k_ => some k_ ≠ (v455 : Value).ownBlock) (.slice (some ⟨go15, 0, none⟩) y457.length co15) y464 := (by rw [hw, Ny464.out]; exact HP33.1); clear HP33; have n0_ := Aside0.mk (Kd.R_over' (v := (.slice (some ⟨go15, 0, none⟩) y457.length co15)) (by (with_reducible repeat (first | apply Kd.R_alloc | apply Kd.R_drewN | apply Kd.R_drew)); exact HO454.out) (Kd.R_typed HO459.out) (by decide) hg); have n1_ := Aside0.mk (Kd.R_after (v := (.slice (some ⟨go15, 0, none⟩) y457.length co15)) (v1 := (.slice (some ⟨go15, 0, none⟩) y457.length co15)) (ok := (fun _ => True)) (by (with_reducible repeat (first | apply Kd.R_alloc | apply Kd.R_drewN | apply Kd.R_drew)); exact HO456.out) hg (.inl rfl)); have n2_ := Aside0.mk (hp_); have n3_ := Aside0.mk (Kd.R_over' (v := (.slice (some ⟨go15, 0, none⟩) y457.length co15)) (by (with_reducible repeat (first | apply Kd.R_alloc | apply Kd.R_drewN | apply Kd.R_drew)); exact HO462.out) (Kd.R_typed HO459.out) (by decide) hg); have n4_ := Aside0.mk ((by rw [hw]; exact below_set (HB.out) GB15.out : Below w.heap.size w w34)); clear HO454; clear HO456; clear HO459; clear HO462; clear HB; have HO454 := n0_; have HO456 := n1_; have HO459 := n2_; have HO462 := n3_; have HB := n4_; clear n0_ n1_ n2_ n3_ n4_; clear hg hw hp_; have p17 : 0 ≤ (0 : Int) := (by omega); have q17 : (0 : Int) < ((y460.length : Int) : Int) := of_decide_eq_true (by first | (with_reducible assumption) | assumption); have qi17 : (0 < y460.length) = True := eq_true (by omega); obtain ⟨go17, co17, eo17, gb17, gl17, cl17, HG17⟩ := Kd.R_form HO462.out (by omega); (first | cases eo17 | (injection eo17 with ea_ en_ ec_; (first | subst ea_ | (injection ea_ with ea_; subst ea_)); subst ec_; clear en_)); have GB17 := Aside0.mk gb17; have GG17 := Aside0.mk HG17; clear gb17 gl17 HG17; obtain ⟨hx17_0, hf17_0⟩ := Kd.R_celln false HO462.out (0 : Int) p17 q17; (try rw [show ((0 : Int)).toNat = 0 from rfl] at hx17_0); (try simp only [Nat.reduceMul, Nat.zero_mul, Nat.zero_add, Nat.reduceAdd] at hx17_0); (try rw [show ((0 : Int)).toNat = 0 from rfl] at hf17_0); (try simp only [Nat.reduceMul, Nat.zero_mul, Nat.zero_add, Nat.reduceAdd] at hf17_0); replace p17 := eq_true p17; replace q17 := eq_true q17; have n_ := Aside0.mk (Kd.R_mono (ok' := (fun k_ => some k_ ≠ (v453 : Value).ownBlock)) HO462.out (fun k_ hk => hk.2)); clear HO462; have HO462 := n_; clear n_; obtain ⟨hy35_, hz35_⟩ := Kd.R_celln false HO462.out (0 : Int) (by omega) (of_decide_eq_true (by first | (with_reducible assumption) | assumption)); (try simp only [Int.reduceToNat, Int.toNat_zero, Int.toNat_ofNat, Nat.reduceMul, Nat.zero_mul, Nat.zero_add] at hy35_ hz35_); (try rw [show ((0 : Int)).toNat = 0 from rfl] at hy35_); (try rw [show ((0 : Int)).toNat = 0 from rfl] at hz35_); have HP35 := Kd.R_putg HO462.out (0 : Int) true) | ((with_reducible refine gate_store (t := 4) (p := 56) rfl ?_); (try (rw [drewN_self w34]; generalize hq_ : World.drewN w34 _ = w34; have n0_ := Aside0.mk (Kd.R_at hq_ HO454.out); have n1_ := Aside0.mk (Kd.R_at hq_ HO456.out); have n2_ := Aside0.mk (Kd.R_at hq_ HO459.out); have n3_ := Aside0.mk (Kd.R_at hq_ HO462.out); have n4_ := Aside0.mk (below_at hq_ HB.out); clear hq_ HO454 HO456 HO459 HO462 HB; have HO454 := n0_; have HO456 := n1_; have HO459 := n2_; have HO462 := n3_; have HB := n4_; clear n0_ n1_ n2_ n3_ n4_; (try (have n_ := Aside0.mk (Kd.R_mono (ok' := (fun k_ => some k_ ≠ (v453 : Value).ownBlock)) HO462.out (fun k_ hk => hk.2)); clear HO462; have HO462 := n_; clear n_)); (try (obtain ⟨hy35_, hz35_⟩ := Kd.R_celln false HO462.out (0 : Int) (by omega) (of_decide_eq_true (by first | (with_reducible assumption) | assumption)))); (try (try simp only [Int.reduceToNat, Int.toNat_zero, Int.toNat_ofNat, Nat.reduceMul, Nat.zero_mul, Nat.zero_add] at hy35_ hz35_)); (try (try rw [show ((0 : Int)).toNat = 0 from rfl] at hy35_)); (try (try rw [show ((0 : Int)).toNat = 0 from rfl] at hz35_)); (try (have HP35 := Kd.R_putg HO462.out (0 : Int) true)))); refine store_event (t := 4) (p := 56) (v := ?vo_w36) (w1 := (w34.setCell ⟨go17, (0 : Int).toNat, none⟩ (.bool true))) ?hg ?ho ?hn ?hr ?_; (case ho => rfl); (case hg => rfl); (case hn => rfl); (case hr => first | (go_simp; done) | (go_simp; rfl)); intro w36 hw; have hg : w34.grownBy w36 (some go17) := (by rw [hw]; exact HP35.2); have hp_ : Kd.R Kd.bool 4 w36 w.heap.size (fun k_ => some k_ ≠ (v453 : Value).ownBlock) (.slice (some ⟨go17, 0, none⟩) y460.length co17) y465 := (by rw [hw, Ny465.out]; exact HP35.1); clear HP35; have n0_ := Aside0.mk (Kd.R_after (v := (.slice (some ⟨go17, 0, none⟩) y460.length co17)) (v1 := (.slice (some ⟨go17, 0, none⟩) y460.length co17)) (ok := (fun _ => True)) (by (with_reducible repeat (first | apply Kd.R_alloc | apply Kd.R_drewN | apply Kd.R_drew)); exact HO454.out) hg (.inl rfl)); have n1_ := Aside0.mk (Kd.R_over' (v := (.slice (some ⟨go17, 0, none⟩) y460.length co17)) (by (with_reducible repeat (first | apply Kd.R_alloc | apply Kd.R_drewN | apply Kd.R_drew)); exact HO456.out) (Kd.R_typed HO462.out) (by decide) hg); have n2_ := Aside0.mk (Kd.R_over' (v := (.slice (some ⟨go17, 0, none⟩) y460.length co17)) (by (with_reducible repeat (first | apply Kd.R_alloc | apply Kd.R_drewN | apply Kd.R_drew)); exact HO459.out) (Kd.R_typed HO462.out) (by decide) hg); have n3_ := Aside0.mk (hp_); have n4_ := Aside0.mk ((by rw [hw]; exact below_set (HB.out) GB17.out : Below w.heap.size w w36)); clear HO454; clear HO456; clear HO459; clear HO462; clear HB; have HO454 := n0_; have HO456 := n1_; have HO459 := n2_; have HO462 := n3_; have HB := n4_; clear n0_ n1_ n2_ n3_ n4_; clear hg hw hp_; have p466 : 0 ≤ (0 : Int) := (by omega); have q466 : 0 < (l1.length : Int) := of_decide_eq_true (by first | (with_reducible assumption) | assumption); obtain ⟨ad466, e466, hx466_0⟩ := Kd.at_int HR1.out 0 p466 q466; obtain rfl : ad463 = ad466 := (by injection e466); have qi466 : (0 < l1.length) = True := eq_true (by omega); (try rw [show ((0 : Int)).toNat = 0 from rfl] at hx466_0); (try rw [Addr.add_zero'] at hx466_0); replace hx466_0 := (HB.out.cell (World.block_lt_of_cell? w _ hx466_0)).trans hx466_0; replace p466 := eq_true p466; replace q466 := eq_true q466; have p467 : 0 ≤ (0 : Int) := (by omega); have q467 : 0 < (l1.length : Int) := of_decide_eq_true (by first | (with_reducible assumption) | assumption); obtain ⟨ad467, e467, hx467_0⟩ := Kd.at_int HR1.out 0 p467 q467; obtain rfl : ad463 = ad467 := (by injection e467); have qi467 : (0 < l1.length) = True := eq_true (by omega); (try rw [show ((0 : Int)).toNat = 0 from rfl] at hx467_0); (try rw [Addr.add_zero'] at hx467_0); replace hx467_0 := (HB.out.cell (World.block_lt_of_cell? w _ hx467_0)).trans hx467_0; replace p467 := eq_true p467; replace q467 := eq_true q467)))
              go_loopg [11, 12] k2 (fun kq v11 v12 w' => ∃ (x9_3 : List Int) (x10_3 : List Bool) (x11_3 : Int) (x12_3 : Int), v11 = .int .i64 x11_3 ∧ v12 = .int .i64 x12_3 ∧ Aside0 (pianolaref10_Longest.l1 kq l0 l1 t451 x9_3 x10_3 x11_3 x12_3 = some (r1, r2)) ∧ Aside0 (kq ≤ k2) ∧ Aside0 (Kd.R Kd.bool 4 w' w.heap.size (fun k_ => some k_ ≠ ((.slice (some ⟨go17, 0, none⟩) y460.length co17) : Value).ownBlock) v453 t451) ∧ Aside0 (Kd.R (Kd.int .i64) 3 w' w.heap.size (fun _ => True) (.slice (some ⟨go15, 0, none⟩) y457.length co15) x9_3) ∧ Aside0 (Kd.R Kd.bool 4 w' w.heap.size (fun k_ => some k_ ≠ (v453 : Value).ownBlock) (.slice (some ⟨go17, 0, none⟩) y460.length co17) x10_3) ∧ Aside0 (Below w.heap.size w w'))
              case atStart => exact ⟨(y464), (y465), (rd l1 0), (0), (by first | rfl | (simp; done) | (simp [*]; done)), (by first | rfl | (simp; done) | (simp [*]; done)), H', ⟨Nat.le_refl _⟩, ⟨by (with_reducible repeat (first | apply Kd.R_alloc | apply Kd.R_drewN | apply Kd.R_drew)); exact Kd.R_mono HO454.out (fun _ hk => hk.2)⟩, ⟨by (with_reducible repeat (first | apply Kd.R_alloc | apply Kd.R_drewN | apply Kd.R_drew)); exact Kd.R_mono HO459.out (fun _ hk => trivial)⟩, ⟨by (with_reducible repeat (first | apply Kd.R_alloc | apply Kd.R_drewN | apply Kd.R_drew)); exact HO462.out⟩, ⟨by repeat (first | (with_reducible first | exact HB.out | apply below_alloc | apply pw_below_drewN | apply below_drew1) | exact HB.out)⟩⟩
              case round =>
               clear H'
               try clear c1
               try clear p1
               try clear q1
               try clear hx1
               try clear qi1
               try clear p2
               try clear c3
               try clear c4
               try clear c4b0
               try clear c4b1
               try clear c4b2
               try clear p4
               try clear q4
               try clear hx4
               try clear qi4
               try clear c5
               try clear c6
               try clear c6b0
               try clear p6
               try clear c7
               try clear c7b0
               try clear c8
               try clear c8b0
               try clear c10
               try clear c10b0
               try clear c10b1
               try clear c11
               try clear c11b0
               try clear c11b1
               try clear c12
               try clear c12b0
               try clear c12b1
               try clear c13
               try clear c13b0
               try clear c13b1
               try clear c14
               try clear c14b0
               try clear c14b1
               try clear p15
               try clear q15
               try clear hx15
               try clear qi15
               try clear hf15
               try clear c16
               try clear c16b0
               try clear c16b1
               try clear p17
               try clear q17
               try clear hx17
               try clear qi17
               try clear hf17
               try clear c18
               try clear c18b0
               try clear c32
               try clear hx15_0
               try clear hx17_0
               try clear hx450_0
               try clear hx463_0
               try clear hx466_0
               try clear hx467_0
               try clear p15
               try clear p17
               try clear p2
               try clear p450
               try clear p463
               try clear p466
               try clear p467
               try clear q15
               try clear q17
               try clear q450
               try clear q463
               try clear q466
               try clear q467
               obtain ⟨x9_3, x10_3, x11_3, x12_3, rfl, rfl, HA, HK3, HO_7, HO_9, HO_10, HB⟩ := hrel
               have hl9_3 := (Kd.R_reads' HO_9.out).1
               rw [hl9_3] at HO_9
               (try simp only [hl9_3])
               (try simp only [hl9_3] at HO_7)
               (try simp only [hl9_3] at HO_10)
               have hl10_3 := (Kd.R_reads' HO_10.out).1
               rw [hl10_3] at HO_10
               (try simp only [hl10_3])
               (try simp only [hl10_3] at HO_7)
               (try simp only [hl10_3] at HO_9)
               cases gk with
               | zero => exact absurd HA.out (by simp [pianolaref10_Longest.l1])
               | succ k3 =>
                have H := HA.out
                clear HA
                simp only [pianolaref10_Longest.l1] at H
                by_cases c37 : x12_3 ≤ (l0.length : Int)
                ·rw [if_pos c37] at H
                 have c37b0 : decide (x12_3 ≤ (l0.length : Int)) = true := decide_eq_true c37
                 clear c37
                 have H' := Aside0.mk H
                 clear H
                 go_wp2
                 repeat (go_quiet (fail); try go_wp2)
                 go_loopg [11, 13, 14] k3 (fun kq v11 v13 v14 w' => ∃ (x9_4 : List Int) (x10_4 : List Bool) (x11_4 : Int) (x13_4 : Bool) (x14_4 : Int), v11 = .int .i64 x11_4 ∧ v13 = .bool x13_4 ∧ v14 = .int .i64 x14_4 ∧ Aside0 (pianolaref10_Longest.l2 kq l0 l1 t451 x9_4 x10_4 x11_4 x12_3 x13_4 x14_4 = some (r1, r2)) ∧ Aside0 (kq ≤ k3) ∧ Aside0 (Kd.R Kd.bool 4 w' w.heap.size (fun k_ => some k_ ≠ ((.slice (some ⟨go17, 0, none⟩) x10_3.length co17) : Value).ownBlock) v453 t451) ∧ Aside0 (Kd.R (Kd.int .i64) 3 w' w.heap.size (fun _ => True) (.slice (some ⟨go15, 0, none⟩) x9_3.length co15) x9_4) ∧ Aside0 (Kd.R Kd.bool 4 w' w.heap.size (fun k_ => some k_ ≠ (v453 : Value).ownBlock) (.slice (some ⟨go17, 0, none⟩) x10_3.length co17) x10_4) ∧ Aside0 (Below w.heap.size w w'))
                 case atStart => exact ⟨(x9_3), (x10_3), (x11_3), (false), (0), (by first | rfl | (simp; done) | (simp [*]; done)), (by first | rfl | (simp; done) | (simp [*]; done)), (by first | rfl | (simp; done) | (simp [*]; done)), H', ⟨Nat.le_refl _⟩, ⟨by (try simp only [hl9_3]); (try simp only [hl10_3]); (with_reducible repeat (first | apply Kd.R_alloc | apply Kd.R_drewN | apply Kd.R_drew)); exact HO_7.out⟩, ⟨by (try simp only [hl9_3]); (try simp only [hl10_3]); (with_reducible repeat (first | apply Kd.R_alloc | apply Kd.R_drewN | apply Kd.R_drew)); exact HO_9.out⟩, ⟨by (try simp only [hl9_3]); (try simp only [hl10_3]); (with_reducible repeat (first | apply Kd.R_alloc | apply Kd.R_drewN | apply Kd.R_drew)); exact HO_10.out⟩, ⟨by repeat (first | (with_reducible first | exact HB.out | apply below_alloc | apply pw_below_drewN | apply below_drew1) | exact HB.out)⟩⟩
                 case round =>
                  clear H'
                  try clear c1
                  try clear p1
                  try clear q1
                  try clear hx1
                  try clear qi1
                  try clear p2
                  try clear c3
                  try clear c4
                  try clear c4b0
                  try clear c4b1
                  try clear c4b2
                  try clear p4
                  try clear q4
                  try clear hx4
                  try clear qi4
                  try clear c5
                  try clear c6
                  try clear c6b0
                  try clear p6
                  try clear c7
                  try clear c7b0
                  try clear c8
                  try clear c8b0
                  try clear c10
                  try clear c10b0
                  try clear c10b1
                  try clear c11
                  try clear c11b0
                  try clear c11b1
                  try clear c12
                  try clear c12b0
                  try clear c12b1
                  try clear c13
                  try clear c13b0
                  try clear c13b1
                  try clear c14
                  try clear c14b0
                  try clear c14b1
                  try clear p15
                  try clear q15
                  try clear hx15
                  try clear qi15
                  try clear hf15
                  try clear c16
                  try clear c16b0
                  try clear c16b1
                  try clear p17
                  try clear q17
                  try clear hx17
                  try clear qi17
                  try clear hf17
                  try clear c18
                  try clear c18b0
                  try clear c32
                  try clear c37
                  try clear c37b0
                  try clear hx15_0
                  try clear hx17_0
                  try clear hx450_0
                  try clear hx463_0
                  try clear hx466_0
                  try clear hx467_0
                  try clear p1
                  try clear p15
                  try clear p17
                  try clear p2
                  try clear p4
                  try clear p450
                  try clear p463
                  try clear p466
                  try clear p467
                  try clear p6
                  try clear q1
                  try clear q15
                  try clear q17
                  try clear q4
                  try clear q450
                  try clear q463
                  try clear q466
                  try clear q467
                  obtain ⟨x9_4, x10_4, x11_4, x13_4, x14_4, rfl, rfl, rfl, HA, HK4, HO_7, HO_9, HO_10, HB⟩ := hrel
                  have hl9_4 := (Kd.R_reads' HO_9.out).1
                  rw [hl9_4] at HO_9
                  (try simp only [hl9_4])
                  (try simp only [hl9_4] at HO_7)
                  (try simp only [hl9_4] at HO_10)
                  have hl10_4 := (Kd.R_reads' HO_10.out).1
                  rw [hl10_4] at HO_10
                  (try simp only [hl10_4])
                  (try simp only [hl10_4] at HO_7)
                  (try simp only [hl10_4] at HO_9)
                  cases gk with
                  | zero => exact absurd HA.out (by simp [pianolaref10_Longest.l2])
                  | succ k4 =>
                   have H := HA.out
                   clear HA
                   simp only [pianolaref10_Longest.l2] at H
                   by_cases c38 : x14_4 < (l0.length : Int)
                   ·rw [if_pos c38] at H
                    have c38b0 : decide (x14_4 < (l0.length : Int)) = true := decide_eq_true c38
                    clear c38
                    have H' := Aside0.mk H
                    clear H
                    go_wp2
                    repeat (go_quiet (fail); try go_wp2)
                    go_loopg [11, 13, 15] k4 (fun kq v11 v13 v15 w' => ∃ (x9_5 : List Int) (x10_5 : List Bool) (x11_5 : Int) (x13_5 : Bool) (x15_5 : Int), v11 = .int .i64 x11_5 ∧ v13 = .bool x13_5 ∧ v15 = .int .i64 x15_5 ∧ Aside0 (pianolaref10_Longest.l3 kq l0 l1 t451 x9_5 x10_5 x11_5 x12_3 x13_5 x14_4 x15_5 = some (r1, r2)) ∧ Aside0 (kq ≤ k4) ∧ Aside0 (Kd.R Kd.bool 4 w' w.heap.size (fun k_ => some k_ ≠ ((.slice (some ⟨go17, 0, none⟩) x10_4.length co17) : Value).ownBlock) v453 t451) ∧ Aside0 (Kd.R (Kd.int .i64) 3 w' w.heap.size (fun _ => True) (.slice (some ⟨go15, 0, none⟩) x9_4.length co15) x9_5) ∧ Aside0 (Kd.R Kd.bool 4 w' w.heap.size (fun k_ => some k_ ≠ (v453 : Value).ownBlock) (.slice (some ⟨go17, 0, none⟩) x10_4.length co17) x10_5) ∧ Aside0 (Below w.heap.size w w'))
                    case atStart => exact ⟨(x9_4), (x10_4), (x11_4), (x13_4), (0), (by first | rfl | (simp; done) | (simp [*]; done)), (by first | rfl | (simp; done) | (simp [*]; done)), (by first | rfl | (simp; done) | (simp [*]; done)), H', ⟨Nat.le_refl _⟩, ⟨by (try simp only [hl9_3]); (try simp only [hl10_3]); (try simp only [hl9_4]); (try simp only [hl10_4]); (with_reducible repeat (first | apply Kd.R_alloc | apply Kd.R_drewN | apply Kd.R_drew)); exact HO_7.out⟩, ⟨by (try simp only [hl9_3]); (try simp only [hl10_3]); (try simp only [hl9_4]); (try simp only [hl10_4]); (with_reducible repeat (first | apply Kd.R_alloc | apply Kd.R_drewN | apply Kd.R_drew)); exact HO_9.out⟩, ⟨by (try simp only [hl9_3]); (try simp only [hl10_3]); (try simp only [hl9_4]); (try simp only [hl10_4]); (with_reducible repeat (first | apply Kd.R_alloc | apply Kd.R_drewN | apply Kd.R_drew)); exact HO_10.out⟩, ⟨by repeat (first | (with_reducible first | exact HB.out | apply below_alloc | apply pw_below_drewN | apply below_drew1) | exact HB.out)⟩⟩
                    case round =>
                     clear H'
                     try clear c1
                     try clear p1
                     try clear q1
                     try clear hx1
                     try clear qi1
                     try clear p2
                     try clear c3
                     try clear c4
                     try clear c4b0
                     try clear c4b1
                     try clear c4b2
                     try clear p4
                     try clear q4
                     try clear hx4
                     try clear qi4
                     try clear c5
                     try clear c6
                     try clear c6b0
                     try clear p6
                     try clear c7
                     try clear c7b0
                     try clear c8
                     try clear c8b0
                     try clear c10
                     try clear c10b0
                     try clear c10b1
                     try clear c11
                     try clear c11b0
                     try clear c11b1
                     try clear c12
                     try clear c12b0
                     try clear c12b1
                     try clear c13
                     try clear c13b0
                     try clear c13b1
                     try clear c14
                     try clear c14b0
                     try clear c14b1
                     try clear p15
                     try clear q15
                     try clear hx15
                     try clear qi15
                     try clear hf15
                     try clear c16
                     try clear c16b0
                     try clear c16b1
                     try clear p17
                     try clear q17
                     try clear hx17
                     try clear qi17
                     try clear hf17
                     try clear c18
                     try clear c18b0
                     try clear c32
                     try clear c37
                     try clear c37b0
                     try clear c38
                     try clear c38b0
                     try clear hx15_0
                     try clear hx17_0
                     try clear hx450_0
                     try clear hx463_0
                     try clear hx466_0
                     try clear hx467_0
                     try clear p1
                     try clear p15
                     try clear p17
                     try clear p2
                     try clear p4
                     try clear p450
                     try clear p463
                     try clear p466
                     try clear p467
                     try clear p6
                     try clear q1
                     try clear q15
                     try clear q17
                     try clear q4
                     try clear q450
                     try clear q463
                     try clear q466
                     try clear q467
                     obtain ⟨x9_5, x10_5, x11_5, x13_5, x15_5, rfl, rfl, rfl, HA, HK5, HO_7, HO_9, HO_10, HB⟩ := hrel
                     have hl9_5 := (Kd.R_reads' HO_9.out).1
                     rw [hl9_5] at HO_9
                     (try simp only [hl9_5])
                     (try simp only [hl9_5] at HO_7)
                     (try simp only [hl9_5] at HO_10)
                     have hl10_5 := (Kd.R_reads' HO_10.out).1
                     rw [hl10_5] at HO_10
                     (try simp only [hl10_5])
                     (try simp only [hl10_5] at HO_7)
                     (try simp only [hl10_5] at HO_9)
                     cases gk with
                     | zero => exact absurd HA.out (by simp [pianolaref10_Longest.l3])
                     | succ k5 =>
                      have H := HA.out
                      clear HA
                      simp only [pianolaref10_Longest.l3] at H
                      have HC39 := Aside0.mk H
                      clear H
                      go_upto_region 23 with (fail)
                      repeat (go_quiet (fail); go_upto_region 23 with (fail))
                      go_cut [89] (fun v89 wc => ∃ (kq : Nat) (x89_38 : Bool), v89 = .bool x89_38 ∧ Aside0 (pianolaref10_Longest.j5 kq l0 l1 t451 x9_5 x10_5 x11_5 x12_3 x13_5 x14_4 x15_5 x89_38 = some (r1, r2)) ∧ Aside0 (kq ≤ k5) ∧ Aside0 (Kd.R Kd.bool 4 wc w.heap.size (fun k_ => some k_ ≠ ((.slice (some ⟨go17, 0, none⟩) x10_5.length co17) : Value).ownBlock) v453 t451) ∧ Aside0 (Kd.R (Kd.int .i64) 3 wc w.heap.size (fun _ => True) (.slice (some ⟨go15, 0, none⟩) x9_5.length co15) x9_5) ∧ Aside0 (Kd.R Kd.bool 4 wc w.heap.size (fun k_ => some k_ ≠ (v453 : Value).ownBlock) (.slice (some ⟨go17, 0, none⟩) x10_5.length co17) x10_5) ∧ Aside0 (Below w.heap.size w wc))
                      case first =>
                       have H := HC39.out
                       clear HC39
                       by_cases c40 : 0 ≤ x14_4
                       ·rw [if_pos c40] at H
                        have c40b0 : decide (0 ≤ x14_4) = true := decide_eq_true c40
                        clear c40
                        (first | rw [c40b0] | (simp only [i64_w, i32_w]; rw [c40b0]) | skip)
                        by_cases c41 : x14_4 < (l0.length : Int)
                        ·rw [if_pos c41] at H
                         have c41b0 : decide (x14_4 < (l0.length : Int)) = true := decide_eq_true c41
                         clear c41
                         by_cases c42 : x15_5 < (((rd_T30 l0 x14_4).f2).length : Int)
                         ·rw [if_pos c42] at H
                          have c42b0 : decide (x15_5 < (((rd_T30 l0 x14_4).f2).length : Int)) = true := decide_eq_true c42
                          clear c42
                          by_cases c43 : x14_4 < (x10_5.length : Int)
                          ·rw [if_pos c43] at H
                           have c43b0 : decide (x14_4 < (x10_5.length : Int)) = true := decide_eq_true c43
                           clear c43
                           have H' := Aside0.mk H
                           clear H
                           have p470 : 0 ≤ (x14_4 : Int) := of_decide_eq_true (by first | (with_reducible assumption) | assumption)
                           have q470 : x14_4 < (l0.length : Int) := of_decide_eq_true (by first | (with_reducible assumption) | assumption)
                           obtain ⟨ad470, A470_2, c470_2, e470, hx470_0, hx470_1, hx470_2, hl470_2, hi470_2⟩ := at_T30 HR0.out x14_4 p470 q470
                           cases e470
                           replace hx470_0 := (HB.out.cell (World.block_lt_of_cell? w _ hx470_0)).trans hx470_0
                           replace hx470_1 := (HB.out.cell (World.block_lt_of_cell? w _ hx470_1)).trans hx470_1
                           replace hx470_2 := (HB.out.cell (World.block_lt_of_cell? w _ hx470_2)).trans hx470_2
                           have HR470_2 := Aside0.mk hi470_2
                           have HC470_2 := Aside0.mk hl470_2
                           clear hi470_2 hl470_2
                           replace p470 := eq_true p470
                           replace q470 := eq_true q470
                           have p471 : 0 ≤ (x14_4 : Int) := of_decide_eq_true (by first | (with_reducible assumption) | assumption)
                           have q471 : x14_4 < (x10_5.length : Int) := of_decide_eq_true (by first | (with_reducible assumption) | assumption)
                           obtain ⟨ad471, e471, hx471_0⟩ := Kd.at_bool (Kd.R_reads' HO_10.out).2.2 x14_4 p471 q471
                           obtain rfl : (⟨go17, 0, none⟩ : Addr) = ad471 := (by injection e471)
                           (first | simp only [add_plain] at hx471_0 | simp only [add_at] at hx471_0 | simp only [Addr.add, Nat.zero_add] at hx471_0 | skip)
                           replace p471 := eq_true p471
                           replace q471 := eq_true q471
                           go_wp2
                           repeat (go_quiet (fail); try go_wp2)
                           go_meet
                           case rel => exact ⟨_, (rdOf false x10_5 x14_4), (by first | rfl | (simp; done) | (simp [*]; done)), H', ⟨by have := HJ2.out; have := HK2.out; have := HK3.out; have := HK4.out; have := HK5.out; first | omega | exact Nat.le_refl _⟩, ⟨by (try simp only [hl9_3]); (try simp only [hl10_3]); (try simp only [hl9_4]); (try simp only [hl10_4]); (try simp only [hl9_5]); (try simp only [hl10_5]); (with_reducible repeat (first | apply Kd.R_alloc | apply Kd.R_drewN | apply Kd.R_drew)); exact HO_7.out⟩, ⟨by (try simp only [hl9_3]); (try simp only [hl10_3]); (try simp only [hl9_4]); (try simp only [hl10_4]); (try simp only [hl9_5]); (try simp only [hl10_5]); (with_reducible repeat (first | apply Kd.R_alloc | apply Kd.R_drewN | apply Kd.R_drew)); exact HO_9.out⟩, ⟨by (try simp only [hl9_3]); (try simp only [hl10_3]); (try simp only [hl9_4]); (try simp only [hl10_4]); (try simp only [hl9_5]); (try simp only [hl10_5]); (with_reducible repeat (first | apply Kd.R_alloc | apply Kd.R_drewN | apply Kd.R_drew)); exact HO_10.out⟩, ⟨by repeat (first | (with_reducible first | exact HB.out | apply below_alloc | apply pw_below_drewN | apply below_drew1) | exact HB.out)⟩⟩
                          ·rw [if_neg c43] at H
                           exact absurd H (by simp)
                         ·rw [if_neg c42] at H
                          have c42b0 : decide (x15_5 < (((rd_T30 l0 x14_4).f2).length : Int)) = false := decide_eq_false c42
                          clear c42
                          have H' := Aside0.mk H
                          clear H
                          have p470 : 0 ≤ (x14_4 : Int) := of_decide_eq_true (by first | (with_reducible assumption) | assumption)
                          have q470 : x14_4 < (l0.length : Int) := of_decide_eq_true (by first | (with_reducible assumption) | assumption)
                          obtain ⟨ad470, A470_2, c470_2, e470, hx470_0, hx470_1, hx470_2, hl470_2, hi470_2⟩ := at_T30 HR0.out x14_4 p470 q470
                          cases e470
                          replace hx470_0 := (HB.out.cell (World.block_lt_of_cell? w _ hx470_0)).trans hx470_0
                          replace hx470_1 := (HB.out.cell (World.block_lt_of_cell? w _ hx470_1)).trans hx470_1
                          replace hx470_2 := (HB.out.cell (World.block_lt_of_cell? w _ hx470_2)).trans hx470_2
                          have HR470_2 := Aside0.mk hi470_2
                          have HC470_2 := Aside0.mk hl470_2
                          clear hi470_2 hl470_2
                          replace p470 := eq_true p470
                          replace q470 := eq_true q470
                          go_wp2
                          repeat (go_quiet (fail); try go_wp2)
                          go_meet
                          case rel => exact ⟨_, (false), (by first | rfl | (simp; done) | (simp [*]; done)), H', ⟨by have := HJ2.out; have := HK2.out; have := HK3.out; have := HK4.out; have := HK5.out; first | omega | exact Nat.le_refl _⟩, ⟨by (try simp only [hl9_3]); (try simp only [hl10_3]); (try simp only [hl9_4]); (try simp only [hl10_4]); (try simp only [hl9_5]); (try simp only [hl10_5]); (with_reducible repeat (first | apply Kd.R_alloc | apply Kd.R_drewN | apply Kd.R_drew)); exact HO_7.out⟩, ⟨by (try simp only [hl9_3]); (try simp only [hl10_3]); (try simp only [hl9_4]); (try simp only [hl10_4]); (try simp only [hl9_5]); (try simp only [hl10_5]); (with_reducible repeat (first | apply Kd.R_alloc | apply Kd.R_drewN | apply Kd.R_drew)); exact HO_9.out⟩, ⟨by (try simp only [hl9_3]); (try simp only [hl10_3]); (try simp only [hl9_4]); (try simp only [hl10_4]); (try simp only [hl9_5]); (try simp only [hl10_5]); (with_reducible repeat (first | apply Kd.R_alloc | apply Kd.R_drewN | apply Kd.R_drew)); exact HO_10.out⟩, ⟨by repeat (first | (with_reducible first | exact HB.out | apply below_alloc | apply pw_below_drewN | apply below_drew1) | exact HB.out)⟩⟩
                        ·rw [if_neg c41] at H
                         exact absurd H (by simp)
                       ·rw [if_neg c40] at H
                        exact absurd H (by simp)
                      case rest =>
                       clear HC39
                       try clear c1
                       try clear p1
                       try clear q1
                       try clear hx1
                       try clear qi1
                       try clear p2
                       try clear c3
                       try clear c4
                       try clear c4b0
                       try clear c4b1
                       try clear c4b2
                       try clear p4
                       try clear q4
                       try clear hx4
                       try clear qi4
                       try clear c5
                       try clear c6
                       try clear c6b0
                       try clear p6
                       try clear c7
                       try clear c7b0
                       try clear c8
                       try clear c8b0
                       try clear c10
                       try clear c10b0
                       try clear c10b1
                       try clear c11
                       try clear c11b0
                       try clear c11b1
                       try clear c12
                       try clear c12b0
                       try clear c12b1
                       try clear c13
                       try clear c13b0
                       try clear c13b1
                       try clear c14
                       try clear c14b0
                       try clear c14b1
                       try clear p15
                       try clear q15
                       try clear hx15
                       try clear qi15
                       try clear hf15
                       try clear c16
                       try clear c16b0
                       try clear c16b1
                       try clear p17
                       try clear q17
                       try clear hx17
                       try clear qi17
                       try clear hf17
                       try clear c18
                       try clear c18b0
                       try clear c32
                       try clear c37
                       try clear c37b0
                       try clear c38
                       try clear c38b0
                       try clear c40
                       try clear c40b0
                       try clear c41
                       try clear c41b0
                       try clear c42
                       try clear c42b0
                       try clear c43
                       try clear c43b0
                       try clear hx15_0
                       try clear hx17_0
                       try clear hx450_0
                       try clear hx463_0
                       try clear hx466_0
                       try clear hx467_0
                       try clear hx470_0
                       try clear hx470_1
                       try clear hx470_2
                       try clear hx471_0
                       try clear p1
                       try clear p15
                       try clear p17
                       try clear p2
                       try clear p4
                       try clear p450
                       try clear p463
                       try clear p466
                       try clear p467
                       try clear p470
                       try clear p471
                       try clear p6
                       try clear q1
                       try clear q15
                       try clear q17
                       try clear q4
                       try clear q450
                       try clear q463
                       try clear q466
                       try clear q467
                       try clear q470
                       try clear q471
                       obtain ⟨kq, x89_38, rfl, HA, HJ38, HO_7, HO_9, HO_10, HB⟩ := hcut
                       cases kq with
                       | zero => exact absurd HA.out (by simp [pianolaref10_Longest.j5])
                       | succ kj38 =>
                        have H := HA.out
                        clear HA
                        simp only [pianolaref10_Longest.j5] at H
                        by_cases c44 : x89_38 = true
                        ·subst c44
                         have H1 : (if 0 ≤ x14_4 then (if x14_4 < (l0.length : Int) then (if 0 ≤ x15_5 then (if x15_5 < (((rd_T30 l0 x14_4).f2).length : Int) then (if (rd ((rd_T30 l0 x14_4).f2) x15_5) < 0 then (pianolaref10_Longest.j6 kj38 l0 l1 t451 x9_5 x10_5 x11_5 x12_3 x13_5 x14_4 x15_5 (rd ((rd_T30 l0 x14_4).f2) x15_5) true) else (if (rd ((rd_T30 l0 x14_4).f2) x15_5) ≥ (l0.length : Int) then (pianolaref10_Longest.j6 kj38 l0 l1 t451 x9_5 x10_5 x11_5 x12_3 x13_5 x14_4 x15_5 (rd ((rd_T30 l0 x14_4).f2) x15_5) true) else (if 0 ≤ (rd ((rd_T30 l0 x14_4).f2) x15_5) then (if (rd ((rd_T30 l0 x14_4).f2) x15_5) < (t451.length : Int) then (pianolaref10_Longest.j6 kj38 l0 l1 t451 x9_5 x10_5 x11_5 x12_3 x13_5 x14_4 x15_5 (rd ((rd_T30 l0 x14_4).f2) x15_5) (!(rdOf false t451 (rd ((rd_T30 l0 x14_4).f2) x15_5)))) else (none)) else (none)))) else (none)) else (none)) else (none)) else (none)) = some (r1, r2) := by rw [if_pos rfl] at H; exact H
                         clear H
                         have H := H1
                         clear H1
                         by_cases c45 : 0 ≤ x14_4
                         ·rw [if_pos c45] at H
                          have c45b0 : decide (0 ≤ x14_4) = true := decide_eq_true c45
                          clear c45
                          by_cases c46 : x14_4 < (l0.length : Int)
                          ·rw [if_pos c46] at H
                           have c46b0 : decide (x14_4 < (l0.length : Int)) = true := decide_eq_true c46
                           clear c46
                           by_cases c47 : 0 ≤ x15_5
                           ·rw [if_pos c47] at H
                            have c47b0 : decide (0 ≤ x15_5) = true := decide_eq_true c47
                            clear c47
                            by_cases c48 : x15_5 < (((rd_T30 l0 x14_4).f2).length : Int)
                            ·rw [if_pos c48] at H
                             have c48b0 : decide (x15_5 < (((rd_T30 l0 x14_4).f2).length : Int)) = true := decide_eq_true c48
                             clear c48
                             have HC49 := Aside0.mk H
                             clear H
                             have p472 : 0 ≤ (x14_4 : Int) := of_decide_eq_true (by first | (with_reducible assumption) | assumption)
                             have q472 : x14_4 < (l0.length : Int) := of_decide_eq_true (by first | (with_reducible assumption) | assumption)
                             obtain ⟨ad472, A472_2, c472_2, e472, hx472_0, hx472_1, hx472_2, hl472_2, hi472_2⟩ := at_T30 HR0.out x14_4 p472 q472
                             cases e472
                             replace hx472_0 := (HB.out.cell (World.block_lt_of_cell? w _ hx472_0)).trans hx472_0
                             replace hx472_1 := (HB.out.cell (World.block_lt_of_cell? w _ hx472_1)).trans hx472_1
                             replace hx472_2 := (HB.out.cell (World.block_lt_of_cell? w _ hx472_2)).trans hx472_2
                             have HR472_2 := Aside0.mk hi472_2
                             have HC472_2 := Aside0.mk hl472_2
                             clear hi472_2 hl472_2
                             replace p472 := eq_true p472
                             replace q472 := eq_true q472
                             have p473 : 0 ≤ (x15_5 : Int) := of_decide_eq_true (by first | (with_reducible assumption) | assumption)
                             have q473 : x15_5 < (((rd_T30 l0 x14_4).f2).length : Int) := of_decide_eq_true (by first | (with_reducible assumption) | assumption)
                             obtain ⟨ad473, e473, hx473_0⟩ := Kd.at_int HR472_2.out x15_5 p473 q473
                             cases e473
                             replace hx473_0 := (HB.out.cell (World.block_lt_of_cell? w _ hx473_0)).trans hx473_0
                             replace p473 := eq_true p473
                             replace q473 := eq_true q473
                             go_upto_region 26 with (fail)
                             repeat (go_quiet (fail); go_upto_region 26 with (fail))
                             go_cut [114] (fun v114 wc => ∃ (kq : Nat) (x114_48 : Bool), v114 = .bool x114_48 ∧ Aside0 (pianolaref10_Longest.j6 kq l0 l1 t451 x9_5 x10_5 x11_5 x12_3 x13_5 x14_4 x15_5 (rd ((rd_T30 l0 x14_4).f2) x15_5) x114_48 = some (r1, r2)) ∧ Aside0 (kq ≤ kj38) ∧ Aside0 (Kd.R Kd.bool 4 wc w.heap.size (fun k_ => some k_ ≠ ((.slice (some ⟨go17, 0, none⟩) x10_5.length co17) : Value).ownBlock) v453 t451) ∧ Aside0 (Kd.R (Kd.int .i64) 3 wc w.heap.size (fun _ => True) (.slice (some ⟨go15, 0, none⟩) x9_5.length co15) x9_5) ∧ Aside0 (Kd.R Kd.bool 4 wc w.heap.size (fun k_ => some k_ ≠ (v453 : Value).ownBlock) (.slice (some ⟨go17, 0, none⟩) x10_5.length co17) x10_5) ∧ Aside0 (Below w.heap.size w wc))
                             case first =>
                              have H := HC49.out
                              clear HC49
                              by_cases c50 : (rd ((rd_T30 l0 x14_4).f2) x15_5) < 0
                              ·rw [if_pos c50] at H
                               have c50b0 : decide ((rd ((rd_T30 l0 x14_4).f2) x15_5) < 0) = true := decide_eq_true c50
                               clear c50
                               (first | rw [c50b0] | (simp only [i64_w, i32_w]; rw [c50b0]) | skip)
                               have H' := Aside0.mk H
                               clear H
                               go_wp2
                               repeat (go_quiet (fail); try go_wp2)
                               go_meet
                               case rel => exact ⟨_, (true), (by first | rfl | (simp; done) | (simp [*]; done)), H', ⟨by have := HJ2.out; have := HK2.out; have := HK3.out; have := HK4.out; have := HK5.out; have := HJ38.out; first | omega | exact Nat.le_refl _⟩, ⟨by (try simp only [hl9_3]); (try simp only [hl10_3]); (try simp only [hl9_4]); (try simp only [hl10_4]); (try simp only [hl9_5]); (try simp only [hl10_5]); (with_reducible repeat (first | apply Kd.R_alloc | apply Kd.R_drewN | apply Kd.R_drew)); exact HO_7.out⟩, ⟨by (try simp only [hl9_3]); (try simp only [hl10_3]); (try simp only [hl9_4]); (try simp only [hl10_4]); (try simp only [hl9_5]); (try simp only [hl10_5]); (with_reducible repeat (first | apply Kd.R_alloc | apply Kd.R_drewN | apply Kd.R_drew)); exact HO_9.out⟩, ⟨by (try simp only [hl9_3]); (try simp only [hl10_3]); (try simp only [hl9_4]); (try simp only [hl10_4]); (try simp only [hl9_5]); (try simp only [hl10_5]); (with_reducible repeat (first | apply Kd.R_alloc | apply Kd.R_drewN | apply Kd.R_drew)); exact HO_10.out⟩, ⟨by repeat (first | (with_reducible first | exact HB.out | apply below_alloc | apply pw_below_drewN | apply below_drew1) | exact HB.out)⟩⟩
                              ·rw [if_neg c50] at H
                               have c50b0 : decide ((rd ((rd_T30 l0 x14_4).f2) x15_5) < 0) = false := decide_eq_false c50
                               clear c50
                               (first | rw [c50b0] | (simp only [i64_w, i32_w]; rw [c50b0]) | skip)
                               by_cases c51 : (rd ((rd_T30 l0 x14_4).f2) x15_5) ≥ (l0.length : Int)
                               ·rw [if_pos c51] at H
                                have c51b0 : decide ((l0.length : Int) ≤ (rd ((rd_T30 l0 x14_4).f2) x15_5)) = true := decide_eq_true c51
                                clear c51
                                have H' := Aside0.mk H
                                clear H
                                go_wp2
                                repeat (go_quiet (fail); try go_wp2)
                                go_meet
                                case rel => exact ⟨_, (true), (by first | rfl | (simp; done) | (simp [*]; done)), H', ⟨by have := HJ2.out; have := HK2.out; have := HK3.out; have := HK4.out; have := HK5.out; have := HJ38.out; first | omega | exact Nat.le_refl _⟩, ⟨by (try simp only [hl9_3]); (try simp only [hl10_3]); (try simp only [hl9_4]); (try simp only [hl10_4]); (try simp only [hl9_5]); (try simp only [hl10_5]); (with_reducible repeat (first | apply Kd.R_alloc | apply Kd.R_drewN | apply Kd.R_drew)); exact HO_7.out⟩, ⟨by (try simp only [hl9_3]); (try simp only [hl10_3]); (try simp only [hl9_4]); (try simp only [hl10_4]); (try simp only [hl9_5]); (try simp only [hl10_5]); (with_reducible repeat (first | apply Kd.R_alloc | apply Kd.R_drewN | apply Kd.R_drew)); exact HO_9.out⟩, ⟨by (try simp only [hl9_3]); (try simp only [hl10_3]); (try simp only [hl9_4]); (try simp only [hl10_4]); (try simp only [hl9_5]); (try simp only [hl10_5]); (with_reducible repeat (first | apply Kd.R_alloc | apply Kd.R_drewN | apply Kd.R_drew)); exact HO_10.out⟩, ⟨by repeat (first | (with_reducible first | exact HB.out | apply below_alloc | apply pw_below_drewN | apply below_drew1) | exact HB.out)⟩⟩
                               ·rw [if_neg c51] at H
                                have c51b0 : decide ((l0.length : Int) ≤ (rd ((rd_T30 l0 x14_4).f2) x15_5)) = false := decide_eq_false c51
                                clear c51
                                by_cases c52 : 0 ≤ (rd ((rd_T30 l0 x14_4).f2) x15_5)
                                ·rw [if_pos c52] at H
                                 have c52b0 : decide (0 ≤ (rd ((rd_T30 l0 x14_4).f2) x15_5)) = true := decide_eq_true c52
                                 clear c52
                                 by_cases c53 : (rd ((rd_T30 l0 x14_4).f2) x15_5) < (t451.length : Int)
                                 ·rw [if_pos c53] at H
                                  have c53b0 : decide ((rd ((rd_T30 l0 x14_4).f2) x15_5) < (t451.length : Int)) = true := decide_eq_true c53
                                  clear c53
                                  have H' := Aside0.mk H
                                  clear H
                                  obtain ⟨Ao54, co54, eo54⟩ := Kd.R_slice HO_7.out
                                  subst eo54
                                  have p474 : 0 ≤ ((rd ((rd_T30 l0 x14_4).f2) x15_5) : Int) := of_decide_eq_true (by first | (with_reducible assumption) | assumption)
                                  have q474 : (rd ((rd_T30 l0 x14_4).f2) x15_5) < (t451.length : Int) := of_decide_eq_true (by first | (with_reducible assumption) | assumption)
                                  obtain ⟨ad474, e474, hx474_0⟩ := Kd.at_bool (Kd.R_reads' HO_7.out).2.2 (rd ((rd_T30 l0 x14_4).f2) x15_5) p474 q474
                                  cases e474
                                  replace p474 := eq_true p474
                                  replace q474 := eq_true q474
                                  go_wp2
                                  repeat (go_quiet (fail); try go_wp2)
                                  go_meet
                                  case rel => exact ⟨_, (!(rdOf false t451 (rd ((rd_T30 l0 x14_4).f2) x15_5))), (by first | rfl | (simp; done) | (simp [*]; done)), H', ⟨by have := HJ2.out; have := HK2.out; have := HK3.out; have := HK4.out; have := HK5.out; have := HJ38.out; first | omega | exact Nat.le_refl _⟩, ⟨by (try simp only [hl9_3]); (try simp only [hl10_3]); (try simp only [hl9_4]); (try simp only [hl10_4]); (try simp only [hl9_5]); (try simp only [hl10_5]); (with_reducible repeat (first | apply Kd.R_alloc | apply Kd.R_drewN | apply Kd.R_drew)); exact HO_7.out⟩, ⟨by (try simp only [hl9_3]); (try simp only [hl10_3]); (try simp only [hl9_4]); (try simp only [hl10_4]); (try simp only [hl9_5]); (try simp only [hl10_5]); (with_reducible repeat (first | apply Kd.R_alloc | apply Kd.R_drewN | apply Kd.R_drew)); exact HO_9.out⟩, ⟨by (try simp only [hl9_3]); (try simp only [hl10_3]); (try simp only [hl9_4]); (try simp only [hl10_4]); (try simp only [hl9_5]); (try simp only [hl10_5]); (with_reducible repeat (first | apply Kd.R_alloc | apply Kd.R_drewN | apply Kd.R_drew)); exact HO_10.out⟩, ⟨by repeat (first | (with_reducible first | exact HB.out | apply below_alloc | apply pw_below_drewN | apply below_drew1) | exact HB.out)⟩⟩
                                 ·rw [if_neg c53] at H
                                  exact absurd H (by simp)
                                ·rw [if_neg c52] at H
                                 exact absurd H (by simp)
                             case rest =>
                              clear HC49
                              try clear c1
                              try clear p1
                              try clear q1
                              try clear hx1
                              try clear qi1
                              try clear p2
                              try clear c3
                              try clear c4
                              try clear c4b0
                              try clear c4b1
                              try clear c4b2
                              try clear p4
                              try clear q4
                              try clear hx4
                              try clear qi4
                              try clear c5
                              try clear c6
                              try clear c6b0
                              try clear p6
                              try clear c7
                              try clear c7b0
                              try clear c8
                              try clear c8b0
                              try clear c10
                              try clear c10b0
                              try clear c10b1
                              try clear c11
                              try clear c11b0
                              try clear c11b1
                              try clear c12
                              try clear c12b0
                              try clear c12b1
                              try clear c13
                              try clear c13b0
                              try clear c13b1
                              try clear c14
                              try clear c14b0
                              try clear c14b1
                              try clear p15
                              try clear q15
                              try clear hx15
                              try clear qi15
                              try clear hf15
                              try clear c16
                              try clear c16b0
                              try clear c16b1
                              try clear p17
                              try clear q17
                              try clear hx17
                              try clear qi17
                              try clear hf17
                              try clear c18
                              try clear c18b0
                              try clear c32
                              try clear c37
                              try clear c37b0
                              try clear c38
                              try clear c38b0
                              try clear c40
                              try clear c40b0
                              try clear c41
                              try clear c41b0
                              try clear c42
                              try clear c42b0
                              try clear c43
                              try clear c43b0
                              try clear c44
                              try clear c45
                              try clear c45b0
                              try clear p45
                              try clear q45
                              try clear hx45
                              try clear c46
                              try clear c46b0
                              try clear p46
                              try clear q46
                              try clear hx46
                              try clear c47
                              try clear c47b0
                              try clear p47
                              try clear q47
                              try clear hx47
                              try clear c48
                              try clear c48b0
                              try clear c50
                              try clear c50b0
                              try clear c51
                              try clear c51b0
                              try clear c52
                              try clear c52b0
                              try clear c53
                              try clear c53b0
                              try clear hx15_0
                              try clear hx17_0
                              try clear hx450_0
                              try clear hx463_0
                              try clear hx466_0
                              try clear hx467_0
                              try clear hx470_0
                              try clear hx470_1
                              try clear hx470_2
                              try clear hx471_0
                              try clear hx472_0
                              try clear hx472_1
                              try clear hx472_2
                              try clear hx473_0
                              try clear hx474_0
                              try clear p1
                              try clear p15
                              try clear p17
                              try clear p2
                              try clear p4
                              try clear p450
                              try clear p463
                              try clear p466
                              try clear p467
                              try clear p470
                              try clear p471
                              try clear p472
                              try clear p473
                              try clear p474
                              try clear p6
                              try clear q1
                              try clear q15
                              try clear q17
                              try clear q4
                              try clear q450
                              try clear q463
                              try clear q466
                              try clear q467
                              try clear q470
                              try clear q471
                              try clear q472
                              try clear q473
                              try clear q474
                              obtain ⟨kq, x114_48, rfl, HA, HJ48, HO_7, HO_9, HO_10, HB⟩ := hcut
                              cases kq with
                              | zero => exact absurd HA.out (by simp [pianolaref10_Longest.j6])
                              | succ kj48 =>
                               have H := HA.out
                               clear HA
                               simp only [pianolaref10_Longest.j6] at H
                               by_cases c55 : x114_48 = true
                               ·subst c55
                                have H1 : (pianolaref10_Longest.l3 kj48 l0 l1 t451 x9_5 x10_5 x11_5 x12_3 x13_5 x14_4 (wrap64 (x15_5 + 1))) = some (r1, r2) := by rw [if_pos rfl] at H; exact H
                                clear H
                                have H := H1
                                clear H1
                                have H' := Aside0.mk H
                                clear H
                                go_wp2
                                repeat (go_quiet (fail); try go_wp2)
                                (try simp only [← hl9_5, ← hl10_5])
                                go_roundg kj48
                                case measure => have := HJ2.out; have := HK2.out; have := HK3.out; have := HK4.out; have := HK5.out; have := HJ38.out; have := HJ48.out; omega
                                case rel => exact ⟨(x9_5), (x10_5), (x11_5), (x13_5), (wrap64 (x15_5 + 1)), (by first | rfl | (simp; done) | (simp [*]; done)), (by first | rfl | (simp; done) | (simp [*]; done)), (by first | rfl | (simp; done) | (simp [*]; done)), H', ⟨by have := HJ2.out; have := HK2.out; have := HK3.out; have := HK4.out; have := HK5.out; have := HJ38.out; have := HJ48.out; omega⟩, ⟨by (try simp only [hl9_3]); (try simp only [hl10_3]); (try simp only [hl9_4]); (try simp only [hl10_4]); (try simp only [hl9_5]); (try simp only [hl10_5]); (with_reducible repeat (first | apply Kd.R_alloc | apply Kd.R_drewN | apply Kd.R_drew)); exact HO_7.out⟩, ⟨by (try simp only [hl9_3]); (try simp only [hl10_3]); (try simp only [hl9_4]); (try simp only [hl10_4]); (try simp only [hl9_5]); (try simp only [hl10_5]); (with_reducible repeat (first | apply Kd.R_alloc | apply Kd.R_drewN | apply Kd.R_drew)); exact HO_9.out⟩, ⟨by (try simp only [hl9_3]); (try simp only [hl10_3]); (try simp only [hl9_4]); (try simp only [hl10_4]); (try simp only [hl9_5]); (try simp only [hl10_5]); (with_reducible repeat (first | apply Kd.R_alloc | apply Kd.R_drewN | apply Kd.R_drew)); exact HO_10.out⟩, ⟨by repeat (first | (with_reducible first | exact HB.out | apply below_alloc | apply pw_below_drewN | apply below_drew1) | exact HB.out)⟩⟩
                               ·replace c55 := Bool.eq_false_iff.mpr c55
                                subst c55
                                have H1 : (if 0 ≤ (rd ((rd_T30 l0 x14_4).f2) x15_5) then (if (rd ((rd_T30 l0 x14_4).f2) x15_5) < (l1.length : Int) then (if 0 ≤ x14_4 then (if x14_4 < (x9_5.length : Int) then (if (rd l1 (rd ((rd_T30 l0 x14_4).f2) x15_5)) > (wrap64 (4611686018427387904 - (rd x9_5 x14_4))) then (some (0, false)) else (if (rd ((rd_T30 l0 x14_4).f2) x15_5) < (x10_5.length : Int) then (if rdOf false x10_5 (rd ((rd_T30 l0 x14_4).f2) x15_5) = true then (if (rd ((rd_T30 l0 x14_4).f2) x15_5) < (x9_5.length : Int) then (pianolaref10_Longest.j7 kj48 l0 l1 t451 x9_5 x10_5 x11_5 x12_3 x13_5 x14_4 x15_5 (rd ((rd_T30 l0 x14_4).f2) x15_5) (wrap64 ((rd x9_5 x14_4) + (rd l1 (rd ((rd_T30 l0 x14_4).f2) x15_5)))) (decide ((wrap64 ((rd x9_5 x14_4) + (rd l1 (rd ((rd_T30 l0 x14_4).f2) x15_5)))) > (rd x9_5 (rd ((rd_T30 l0 x14_4).f2) x15_5))))) else (none)) else (pianolaref10_Longest.j7 kj48 l0 l1 t451 x9_5 x10_5 x11_5 x12_3 x13_5 x14_4 x15_5 (rd ((rd_T30 l0 x14_4).f2) x15_5) (wrap64 ((rd x9_5 x14_4) + (rd l1 (rd ((rd_T30 l0 x14_4).f2) x15_5)))) true)) else (none))) else (none)) else (none)) else (none)) else (none)) = some (r1, r2) := by rw [if_neg (show ¬ (false = true) by decide)] at H; exact H
                                clear H
                                have H := H1
                                clear H1
                                by_cases c56 : 0 ≤ (rd ((rd_T30 l0 x14_4).f2) x15_5)
                                ·rw [if_pos c56] at H
                                 have c56b0 : decide (0 ≤ (rd ((rd_T30 l0 x14_4).f2) x15_5)) = true := decide_eq_true c56
                                 clear c56
                                 by_cases c57 : (rd ((rd_T30 l0 x14_4).f2) x15_5) < (l1.length : Int)
                                 ·rw [if_pos c57] at H
                                  have c57b0 : decide ((rd ((rd_T30 l0 x14_4).f2) x15_5) < (l1.length : Int)) = true := decide_eq_true c57
                                  clear c57
                                  by_cases c58 : 0 ≤ x14_4
                                  ·rw [if_pos c58] at H
                                   have c58b0 : decide (0 ≤ x14_4) = true := decide_eq_true c58
                                   clear c58
                                   by_cases c59 : x14_4 < (x9_5.length : Int)
                                   ·rw [if_pos c59] at H
                                    have c59b0 : decide (x14_4 < (x9_5.length : Int)) = true := decide_eq_true c59
                                    clear c59
                                    by_cases c60 : (rd l1 (rd ((rd_T30 l0 x14_4).f2) x15_5)) > (wrap64 (4611686018427387904 - (rd x9_5 x14_4)))
                                    ·rw [if_pos c60] at H
                                     have c60b0 : decide ((wrap64 (4611686018427387904 - (rd x9_5 x14_4))) < (rd l1 (rd ((rd_T30 l0 x14_4).f2) x15_5))) = true := decide_eq_true c60
                                     clear c60
                                     simp only [Option.some.injEq, Prod.mk.injEq] at H
                                     obtain ⟨rfl, rfl⟩ := H
                                     have p475 : 0 ≤ ((rd ((rd_T30 l0 x14_4).f2) x15_5) : Int) := of_decide_eq_true (by first | (with_reducible assumption) | assumption)
                                     have q475 : (rd ((rd_T30 l0 x14_4).f2) x15_5) < (l1.length : Int) := of_decide_eq_true (by first | (with_reducible assumption) | assumption)
                                     obtain ⟨ad475, e475, hx475_0⟩ := Kd.at_int HR1.out (rd ((rd_T30 l0 x14_4).f2) x15_5) p475 q475
                                     obtain rfl : ad463 = ad475 := (by injection e475)
                                     replace hx475_0 := (HB.out.cell (World.block_lt_of_cell? w _ hx475_0)).trans hx475_0
                                     replace p475 := eq_true p475
                                     replace q475 := eq_true q475
                                     have p476 : 0 ≤ (x14_4 : Int) := of_decide_eq_true (by first | (with_reducible assumption) | assumption)
                                     have q476 : x14_4 < (x9_5.length : Int) := of_decide_eq_true (by first | (with_reducible assumption) | assumption)
                                     obtain ⟨ad476, e476, hx476_0⟩ := Kd.at_int (Kd.R_reads' HO_9.out).2.2 x14_4 p476 q476
                                     obtain rfl : (⟨go15, 0, none⟩ : Addr) = ad476 := (by injection e476)
                                     (first | simp only [add_plain] at hx476_0 | simp only [add_at] at hx476_0 | simp only [Addr.add, Nat.zero_add] at hx476_0 | skip)
                                     replace p476 := eq_true p476
                                     replace q476 := eq_true q476
                                     go_wp2
                                     repeat (go_quiet (fail); try go_wp2)
                                     go_ret2
                                     exact ⟨by first | rfl | (simp [errW_none, errW_some] <;> rfl) | (simp [*, errW_none, errW_some] <;> rfl), by repeat (first | (with_reducible first | exact HB.out | apply below_alloc | apply pw_below_drewN | apply below_drew1) | exact HB.out)⟩
                                    ·rw [if_neg c60] at H
                                     have c60b0 : decide ((wrap64 (4611686018427387904 - (rd x9_5 x14_4))) < (rd l1 (rd ((rd_T30 l0 x14_4).f2) x15_5))) = false := decide_eq_false c60
                                     clear c60
                                     have HC61 := Aside0.mk H
                                     clear H
                                     have p475 : 0 ≤ ((rd ((rd_T30 l0 x14_4).f2) x15_5) : Int) := of_decide_eq_true (by first | (with_reducible assumption) | assumption)
                                     have q475 : (rd ((rd_T30 l0 x14_4).f2) x15_5) < (l1.length : Int) := of_decide_eq_true (by first | (with_reducible assumption) | assumption)
                                     obtain ⟨ad475, e475, hx475_0⟩ := Kd.at_int HR1.out (rd ((rd_T30 l0 x14_4).f2) x15_5) p475 q475
                                     obtain rfl : ad463 = ad475 := (by injection e475)
                                     replace hx475_0 := (HB.out.cell (World.block_lt_of_cell? w _ hx475_0)).trans hx475_0
                                     replace p475 := eq_true p475
                                     replace q475 := eq_true q475
                                     have p476 : 0 ≤ (x14_4 : Int) := of_decide_eq_true (by first | (with_reducible assumption) | assumption)
                                     have q476 : x14_4 < (x9_5.length : Int) := of_decide_eq_true (by first | (with_reducible assumption) | assumption)
                                     obtain ⟨ad476, e476, hx476_0⟩ := Kd.at_int (Kd.R_reads' HO_9.out).2.2 x14_4 p476 q476
                                     obtain rfl : (⟨go15, 0, none⟩ : Addr) = ad476 := (by injection e476)
                                     (first | simp only [add_plain] at hx476_0 | simp only [add_at] at hx476_0 | simp only [Addr.add, Nat.zero_add] at hx476_0 | skip)
                                     replace p476 := eq_true p476
                                     replace q476 := eq_true q476
                                     have p477 : 0 ≤ (x14_4 : Int) := of_decide_eq_true (by first | (with_reducible assumption) | assumption)
                                     have q477 : x14_4 < (x9_5.length : Int) := of_decide_eq_true (by first | (with_reducible assumption) | assumption)
                                     obtain ⟨ad477, e477, hx477_0⟩ := Kd.at_int (Kd.R_reads' HO_9.out).2.2 x14_4 p477 q477
                                     obtain rfl : (⟨go15, 0, none⟩ : Addr) = ad477 := (by injection e477)
                                     (first | simp only [add_plain] at hx477_0 | simp only [add_at] at hx477_0 | simp only [Addr.add, Nat.zero_add] at hx477_0 | skip)
                                     replace p477 := eq_true p477
                                     replace q477 := eq_true q477
                                     have p478 : 0 ≤ ((rd ((rd_T30 l0 x14_4).f2) x15_5) : Int) := of_decide_eq_true (by first | (with_reducible assumption) | assumption)
                                     have q478 : (rd ((rd_T30 l0 x14_4).f2) x15_5) < (l1.length : Int) := of_decide_eq_true (by first | (with_reducible assumption) | assumption)
                                     obtain ⟨ad478, e478, hx478_0⟩ := Kd.at_int HR1.out (rd ((rd_T30 l0 x14_4).f2) x15_5) p478 q478
                                     obtain rfl : ad463 = ad478 := (by injection e478)
                                     replace hx478_0 := (HB.out.cell (World.block_lt_of_cell? w _ hx478_0)).trans hx478_0
                                     replace p478 := eq_true p478
                                     replace q478 := eq_true q478
                                     go_upto_region 30 with (fail)
                                     repeat (go_quiet (fail); go_upto_region 30 with (fail))
                                     go_cut [146] (fun v146 wc => ∃ (kq : Nat) (x146_60 : Bool), v146 = .bool x146_60 ∧ Aside0 (pianolaref10_Longest.j7 kq l0 l1 t451 x9_5 x10_5 x11_5 x12_3 x13_5 x14_4 x15_5 (rd ((rd_T30 l0 x14_4).f2) x15_5) (wrap64 ((rd x9_5 x14_4) + (rd l1 (rd ((rd_T30 l0 x14_4).f2) x15_5)))) x146_60 = some (r1, r2)) ∧ Aside0 (kq ≤ kj48) ∧ Aside0 (Kd.R Kd.bool 4 wc w.heap.size (fun k_ => some k_ ≠ ((.slice (some ⟨go17, 0, none⟩) x10_5.length co17) : Value).ownBlock) v453 t451) ∧ Aside0 (Kd.R (Kd.int .i64) 3 wc w.heap.size (fun _ => True) (.slice (some ⟨go15, 0, none⟩) x9_5.length co15) x9_5) ∧ Aside0 (Kd.R Kd.bool 4 wc w.heap.size (fun k_ => some k_ ≠ (v453 : Value).ownBlock) (.slice (some ⟨go17, 0, none⟩) x10_5.length co17) x10_5) ∧ Aside0 (Below w.heap.size w wc))
                                     case first =>
                                      have H := HC61.out
                                      clear HC61
                                      by_cases c62 : (rd ((rd_T30 l0 x14_4).f2) x15_5) < (x10_5.length : Int)
                                      ·rw [if_pos c62] at H
                                       have c62b0 : decide ((rd ((rd_T30 l0 x14_4).f2) x15_5) < (x10_5.length : Int)) = true := decide_eq_true c62
                                       clear c62
                                       (first | rw [c62b0] | (simp only [i64_w, i32_w]; rw [c62b0]) | skip)
                                       obtain ⟨bq63, hbq63⟩ : ∃ b_ : Bool, b_ = (rdOf false x10_5 (rd ((rd_T30 l0 x14_4).f2) x15_5)) := ⟨_, rfl⟩
                                       replace H : (if bq63 = true then (if (rd ((rd_T30 l0 x14_4).f2) x15_5) < (x9_5.length : Int) then (pianolaref10_Longest.j7 kj48 l0 l1 t451 x9_5 x10_5 x11_5 x12_3 x13_5 x14_4 x15_5 (rd ((rd_T30 l0 x14_4).f2) x15_5) (wrap64 ((rd x9_5 x14_4) + (rd l1 (rd ((rd_T30 l0 x14_4).f2) x15_5)))) (decide ((wrap64 ((rd x9_5 x14_4) + (rd l1 (rd ((rd_T30 l0 x14_4).f2) x15_5)))) > (rd x9_5 (rd ((rd_T30 l0 x14_4).f2) x15_5))))) else (none)) else (pianolaref10_Longest.j7 kj48 l0 l1 t451 x9_5 x10_5 x11_5 x12_3 x13_5 x14_4 x15_5 (rd ((rd_T30 l0 x14_4).f2) x15_5) (wrap64 ((rd x9_5 x14_4) + (rd l1 (rd ((rd_T30 l0 x14_4).f2) x15_5)))) true)) = some (r1, r2) := by rw [← hbq63] at H; exact H
                                       have Nbq63 := Aside0.mk hbq63
                                       clear hbq63
                                       by_cases c64 : bq63 = true
                                       ·subst c64
                                        have H1 : (if (rd ((rd_T30 l0 x14_4).f2) x15_5) < (x9_5.length : Int) then (pianolaref10_Longest.j7 kj48 l0 l1 t451 x9_5 x10_5 x11_5 x12_3 x13_5 x14_4 x15_5 (rd ((rd_T30 l0 x14_4).f2) x15_5) (wrap64 ((rd x9_5 x14_4) + (rd l1 (rd ((rd_T30 l0 x14_4).f2) x15_5)))) (decide ((wrap64 ((rd x9_5 x14_4) + (rd l1 (rd ((rd_T30 l0 x14_4).f2) x15_5)))) > (rd x9_5 (rd ((rd_T30 l0 x14_4).f2) x15_5))))) else (none)) = some (r1, r2) := by rw [if_pos rfl] at H; exact H
                                        clear H
                                        have H := H1
                                        clear H1
                                        by_cases c65 : (rd ((rd_T30 l0 x14_4).f2) x15_5) < (x9_5.length : Int)
                                        ·rw [if_pos c65] at H
                                         have c65b0 : decide ((rd ((rd_T30 l0 x14_4).f2) x15_5) < (x9_5.length : Int)) = true := decide_eq_true c65
                                         clear c65
                                         have H' := Aside0.mk H
                                         clear H
                                         have p479 : 0 ≤ ((rd ((rd_T30 l0 x14_4).f2) x15_5) : Int) := of_decide_eq_true (by first | (with_reducible assumption) | assumption)
                                         have q479 : (rd ((rd_T30 l0 x14_4).f2) x15_5) < (x10_5.length : Int) := of_decide_eq_true (by first | (with_reducible assumption) | assumption)
                                         obtain ⟨ad479, e479, hx479_0⟩ := Kd.at_bool (Kd.R_reads' HO_10.out).2.2 (rd ((rd_T30 l0 x14_4).f2) x15_5) p479 q479
                                         (try rw [← Nbq63.out] at hx479_0)
                                         obtain rfl : (⟨go17, 0, none⟩ : Addr) = ad479 := (by injection e479)
                                         (first | simp only [add_plain] at hx479_0 | simp only [add_at] at hx479_0 | simp only [Addr.add, Nat.zero_add] at hx479_0 | skip)
                                         replace p479 := eq_true p479
                                         replace q479 := eq_true q479
                                         have p480 : 0 ≤ ((rd ((rd_T30 l0 x14_4).f2) x15_5) : Int) := of_decide_eq_true (by first | (with_reducible assumption) | assumption)
                                         have q480 : (rd ((rd_T30 l0 x14_4).f2) x15_5) < (x9_5.length : Int) := of_decide_eq_true (by first | (with_reducible assumption) | assumption)
                                         obtain ⟨ad480, e480, hx480_0⟩ := Kd.at_int (Kd.R_reads' HO_9.out).2.2 (rd ((rd_T30 l0 x14_4).f2) x15_5) p480 q480
                                         obtain rfl : (⟨go15, 0, none⟩ : Addr) = ad480 := (by injection e480)
                                         (first | simp only [add_plain] at hx480_0 | simp only [add_at] at hx480_0 | simp only [Addr.add, Nat.zero_add] at hx480_0 | skip)
                                         replace p480 := eq_true p480
                                         replace q480 := eq_true q480
                                         go_wp2
                                         repeat (go_quiet (fail); try go_wp2)
                                         go_meet
                                         case rel => exact ⟨_, (decide ((wrap64 ((rd x9_5 x14_4) + (rd l1 (rd ((rd_T30 l0 x14_4).f2) x15_5)))) > (rd x9_5 (rd ((rd_T30 l0 x14_4).f2) x15_5)))), (by first | rfl | (simp; done) | (simp [*]; done)), H', ⟨by have := HJ2.out; have := HK2.out; have := HK3.out; have := HK4.out; have := HK5.out; have := HJ38.out; have := HJ48.out; first | omega | exact Nat.le_refl _⟩, ⟨by (try simp only [hl9_3]); (try simp only [hl10_3]); (try simp only [hl9_4]); (try simp only [hl10_4]); (try simp only [hl9_5]); (try simp only [hl10_5]); (with_reducible repeat (first | apply Kd.R_alloc | apply Kd.R_drewN | apply Kd.R_drew)); exact HO_7.out⟩, ⟨by (try simp only [hl9_3]); (try simp only [hl10_3]); (try simp only [hl9_4]); (try simp only [hl10_4]); (try simp only [hl9_5]); (try simp only [hl10_5]); (with_reducible repeat (first | apply Kd.R_alloc | apply Kd.R_drewN | apply Kd.R_drew)); exact HO_9.out⟩, ⟨by (try simp only [hl9_3]); (try simp only [hl10_3]); (try simp only [hl9_4]); (try simp only [hl10_4]); (try simp only [hl9_5]); (try simp only [hl10_5]); (with_reducible repeat (first | apply Kd.R_alloc | apply Kd.R_drewN | apply Kd.R_drew)); exact HO_10.out⟩, ⟨by repeat (first | (with_reducible first | exact HB.out | apply below_alloc | apply pw_below_drewN | apply below_drew1) | exact HB.out)⟩⟩
                                        ·rw [if_neg c65] at H
                                         exact absurd H (by simp)
                                       ·replace c64 := Bool.eq_false_iff.mpr c64
                                        subst c64
                                        have H1 : (pianolaref10_Longest.j7 kj48 l0 l1 t451 x9_5 x10_5 x11_5 x12_3 x13_5 x14_4 x15_5 (rd ((rd_T30 l0 x14_4).f2) x15_5) (wrap64 ((rd x9_5 x14_4) + (rd l1 (rd ((rd_T30 l0 x14_4).f2) x15_5)))) true) = some (r1, r2) := by rw [if_neg (show ¬ (false = true) by decide)] at H; exact H
                                        clear H
                                        have H := H1
                                        clear H1
                                        have H' := Aside0.mk H
                                        clear H
                                        have p479 : 0 ≤ ((rd ((rd_T30 l0 x14_4).f2) x15_5) : Int) := of_decide_eq_true (by first | (with_reducible assumption) | assumption)
                                        have q479 : (rd ((rd_T30 l0 x14_4).f2) x15_5) < (x10_5.length : Int) := of_decide_eq_true (by first | (with_reducible assumption) | assumption)
                                        obtain ⟨ad479, e479, hx479_0⟩ := Kd.at_bool (Kd.R_reads' HO_10.out).2.2 (rd ((rd_T30 l0 x14_4).f2) x15_5) p479 q479
                                        (try rw [← Nbq63.out] at hx479_0)
                                        obtain rfl : (⟨go17, 0, none⟩ : Addr) = ad479 := (by injection e479)
                                        (first | simp only [add_plain] at hx479_0 | simp only [add_at] at hx479_0 | simp only [Addr.add, Nat.zero_add] at hx479_0 | skip)
                                        replace p479 := eq_true p479
                                        replace q479 := eq_true q479
                                        go_wp2
                                        repeat (go_quiet (fail); try go_wp2)
                                        go_meet
                                        case rel => exact ⟨_, (true), (by first | rfl | (simp; done) | (simp [*]; done)), H', ⟨by have := HJ2.out; have := HK2.out; have := HK3.out; have := HK4.out; have := HK5.out; have := HJ38.out; have := HJ48.out; first | omega | exact Nat.le_refl _⟩, ⟨by (try simp only [hl9_3]); (try simp only [hl10_3]); (try simp only [hl9_4]); (try simp only [hl10_4]); (try simp only [hl9_5]); (try simp only [hl10_5]); (with_reducible repeat (first | apply Kd.R_alloc | apply Kd.R_drewN | apply Kd.R_drew)); exact HO_7.out⟩, ⟨by (try simp only [hl9_3]); (try simp only [hl10_3]); (try simp only [hl9_4]); (try simp only [hl10_4]); (try simp only [hl9_5]); (try simp only [hl10_5]); (with_reducible repeat (first | apply Kd.R_alloc | apply Kd.R_drewN | apply Kd.R_drew)); exact HO_9.out⟩, ⟨by (try simp only [hl9_3]); (try simp only [hl10_3]); (try simp only [hl9_4]); (try simp only [hl10_4]); (try simp only [hl9_5]); (try simp only [hl10_5]); (with_reducible repeat (first | apply Kd.R_alloc | apply Kd.R_drewN | apply Kd.R_drew)); exact HO_10.out⟩, ⟨by repeat (first | (with_reducible first | exact HB.out | apply below_alloc | apply pw_below_drewN | apply below_drew1) | exact HB.out)⟩⟩
                                      ·rw [if_neg c62] at H
                                       exact absurd H (by simp)
                                     case rest =>
                                      clear HC61
                                      try clear c1
                                      try clear p1
                                      try clear q1
                                      try clear hx1
                                      try clear qi1
                                      try clear p2
                                      try clear c3
                                      try clear c4
                                      try clear c4b0
                                      try clear c4b1
                                      try clear c4b2
                                      try clear p4
                                      try clear q4
                                      try clear hx4
                                      try clear qi4
                                      try clear c5
                                      try clear c6
                                      try clear c6b0
                                      try clear p6
                                      try clear q6
                                      try clear c7
                                      try clear c7b0
                                      try clear c8
                                      try clear c8b0
                                      try clear c10
                                      try clear c10b0
                                      try clear c10b1
                                      try clear c11
                                      try clear c11b0
                                      try clear c11b1
                                      try clear c12
                                      try clear c12b0
                                      try clear c12b1
                                      try clear c13
                                      try clear c13b0
                                      try clear c13b1
                                      try clear c14
                                      try clear c14b0
                                      try clear c14b1
                                      try clear p15
                                      try clear q15
                                      try clear hx15
                                      try clear qi15
                                      try clear hf15
                                      try clear c16
                                      try clear c16b0
                                      try clear c16b1
                                      try clear p17
                                      try clear q17
                                      try clear hx17
                                      try clear qi17
                                      try clear hf17
                                      try clear c18
                                      try clear c18b0
                                      try clear c32
                                      try clear c37
                                      try clear c37b0
                                      try clear c38
                                      try clear c38b0
                                      try clear c40
                                      try clear c40b0
                                      try clear c41
                                      try clear c41b0
                                      try clear c42
                                      try clear c42b0
                                      try clear c43
                                      try clear c43b0
                                      try clear c44
                                      try clear c45
                                      try clear c45b0
                                      try clear p45
                                      try clear q45
                                      try clear hx45
                                      try clear c46
                                      try clear c46b0
                                      try clear p46
                                      try clear q46
                                      try clear hx46
                                      try clear c47
                                      try clear c47b0
                                      try clear p47
                                      try clear q47
                                      try clear hx47
                                      try clear c48
                                      try clear c48b0
                                      try clear p48
                                      try clear q48
                                      try clear hx48
                                      try clear c50
                                      try clear c50b0
                                      try clear c51
                                      try clear c51b0
                                      try clear c52
                                      try clear c52b0
                                      try clear c53
                                      try clear c53b0
                                      try clear c55
                                      try clear c56
                                      try clear c56b0
                                      try clear c57
                                      try clear c57b0
                                      try clear c58
                                      try clear c58b0
                                      try clear c59
                                      try clear c59b0
                                      try clear c60
                                      try clear c60b0
                                      try clear c62
                                      try clear c62b0
                                      try clear q63
                                      try clear c64
                                      try clear p64
                                      try clear c65
                                      try clear c65b0
                                      try clear hx15_0
                                      try clear hx17_0
                                      try clear hx450_0
                                      try clear hx463_0
                                      try clear hx466_0
                                      try clear hx467_0
                                      try clear hx470_0
                                      try clear hx470_1
                                      try clear hx470_2
                                      try clear hx471_0
                                      try clear hx472_0
                                      try clear hx472_1
                                      try clear hx472_2
                                      try clear hx473_0
                                      try clear hx474_0
                                      try clear hx475_0
                                      try clear hx476_0
                                      try clear hx477_0
                                      try clear hx478_0
                                      try clear hx479_0
                                      try clear hx480_0
                                      try clear p1
                                      try clear p15
                                      try clear p17
                                      try clear p2
                                      try clear p4
                                      try clear p45
                                      try clear p450
                                      try clear p46
                                      try clear p463
                                      try clear p466
                                      try clear p467
                                      try clear p47
                                      try clear p470
                                      try clear p471
                                      try clear p472
                                      try clear p473
                                      try clear p474
                                      try clear p475
                                      try clear p476
                                      try clear p477
                                      try clear p478
                                      try clear p479
                                      try clear p480
                                      try clear p6
                                      try clear q1
                                      try clear q15
                                      try clear q17
                                      try clear q4
                                      try clear q45
                                      try clear q450
                                      try clear q46
                                      try clear q463
                                      try clear q466
                                      try clear q467
                                      try clear q47
                                      try clear q470
                                      try clear q471
                                      try clear q472
                                      try clear q473
                                      try clear q474
                                      try clear q475
                                      try clear q476
                                      try clear q477
                                      try clear q478
                                      try clear q479
                                      try clear q480
                                      obtain ⟨kq, x146_60, rfl, HA, HJ60, HO_7, HO_9, HO_10, HB⟩ := hcut
                                      cases kq with
                                      | zero => exact absurd HA.out (by simp [pianolaref10_Longest.j7])
                                      | succ kj60 =>
                                       have H := HA.out
                                       clear HA
                                       simp only [pianolaref10_Longest.j7] at H
                                       by_cases c66 : x146_60 = true
                                       ·subst c66
                                        have H1 : (if 0 ≤ (rd ((rd_T30 l0 x14_4).f2) x15_5) then (if (rd ((rd_T30 l0 x14_4).f2) x15_5) < (x9_5.length : Int) then ((some (x9_5.set ((rd ((rd_T30 l0 x14_4).f2) x15_5) : Int).toNat (wrap64 ((rd x9_5 x14_4) + (rd l1 (rd ((rd_T30 l0 x14_4).f2) x15_5)))) : List Int)).bind fun y481 => (if (rd ((rd_T30 l0 x14_4).f2) x15_5) < (x10_5.length : Int) then ((some (x10_5.set ((rd ((rd_T30 l0 x14_4).f2) x15_5) : Int).toNat true : List Bool)).bind fun y482 => (if (wrap64 ((rd x9_5 x14_4) + (rd l1 (rd ((rd_T30 l0 x14_4).f2) x15_5)))) > x11_5 then (pianolaref10_Longest.l3 kj60 l0 l1 t451 y481 y482 (wrap64 ((rd x9_5 x14_4) + (rd l1 (rd ((rd_T30 l0 x14_4).f2) x15_5)))) x12_3 true x14_4 (wrap64 (x15_5 + 1))) else (pianolaref10_Longest.l3 kj60 l0 l1 t451 y481 y482 x11_5 x12_3 true x14_4 (wrap64 (x15_5 + 1))))) else (none))) else (none)) else (none)) = some (r1, r2) := by rw [if_pos rfl] at H; exact H
                                        clear H
                                        have H := H1
                                        clear H1
                                        by_cases c67 : 0 ≤ (rd ((rd_T30 l0 x14_4).f2) x15_5)
                                        ·rw [if_pos c67] at H
                                         have c67b0 : decide (0 ≤ (rd ((rd_T30 l0 x14_4).f2) x15_5)) = true := decide_eq_true c67
                                         clear c67
                                         by_cases c68 : (rd ((rd_T30 l0 x14_4).f2) x15_5) < (x9_5.length : Int)
                                         ·rw [if_pos c68] at H
                                          have c68b0 : decide ((rd ((rd_T30 l0 x14_4).f2) x15_5) < (x9_5.length : Int)) = true := decide_eq_true c68
                                          clear c68
                                          obtain ⟨y481, hy481⟩ : ∃ y_ : List Int, y_ = (x9_5.set ((rd ((rd_T30 l0 x14_4).f2) x15_5) : Int).toNat (wrap64 ((rd x9_5 x14_4) + (rd l1 (rd ((rd_T30 l0 x14_4).f2) x15_5))))) := ⟨_, rfl⟩
                                          replace H : (if (rd ((rd_T30 l0 x14_4).f2) x15_5) < (x10_5.length : Int) then ((some (x10_5.set ((rd ((rd_T30 l0 x14_4).f2) x15_5) : Int).toNat true : List Bool)).bind fun y482 => (if (wrap64 ((rd x9_5 x14_4) + (rd l1 (rd ((rd_T30 l0 x14_4).f2) x15_5)))) > x11_5 then (pianolaref10_Longest.l3 kj60 l0 l1 t451 y481 y482 (wrap64 ((rd x9_5 x14_4) + (rd l1 (rd ((rd_T30 l0 x14_4).f2) x15_5)))) x12_3 true x14_4 (wrap64 (x15_5 + 1))) else (pianolaref10_Longest.l3 kj60 l0 l1 t451 y481 y482 x11_5 x12_3 true x14_4 (wrap64 (x15_5 + 1))))) else (none)) = some (r1, r2) := by first | (rw [hy481]; with_reducible exact H) | (have H2_ := (Option.bind_some _ _).symm.trans H; rw [hy481]; with_reducible exact H2_) | (have H2_ := (Option.bind_some _ _).symm.trans H; with_reducible exact H2_) | with_reducible exact H | (rw [hy481]; exact H) | exact H
                                          have Ny481 := Aside0.mk hy481
                                          clear hy481
                                          by_cases c70 : (rd ((rd_T30 l0 x14_4).f2) x15_5) < (x10_5.length : Int)
                                          ·rw [if_pos c70] at H
                                           have c70b0 : decide ((rd ((rd_T30 l0 x14_4).f2) x15_5) < (x10_5.length : Int)) = true := decide_eq_true c70
                                           clear c70
                                           obtain ⟨y482, hy482⟩ : ∃ y_ : List Bool, y_ = (x10_5.set ((rd ((rd_T30 l0 x14_4).f2) x15_5) : Int).toNat true) := ⟨_, rfl⟩
                                           replace H : (if (wrap64 ((rd x9_5 x14_4) + (rd l1 (rd ((rd_T30 l0 x14_4).f2) x15_5)))) > x11_5 then (pianolaref10_Longest.l3 kj60 l0 l1 t451 y481 y482 (wrap64 ((rd x9_5 x14_4) + (rd l1 (rd ((rd_T30 l0 x14_4).f2) x15_5)))) x12_3 true x14_4 (wrap64 (x15_5 + 1))) else (pianolaref10_Longest.l3 kj60 l0 l1 t451 y481 y482 x11_5 x12_3 true x14_4 (wrap64 (x15_5 + 1)))) = some (r1, r2) := by first | (rw [hy482]; with_reducible exact H) | (have H2_ := (Option.bind_some _ _).symm.trans H; rw [hy482]; with_reducible exact H2_) | (have H2_ := (Option.bind_some _ _).symm.trans H; with_reducible exact H2_) | with_reducible exact H | (rw [hy482]; exact H) | exact H
                                           have Ny482 := Aside0.mk hy482
                                           clear hy482
                                           by_cases c72 : (wrap64 ((rd x9_5 x14_4) + (rd l1 (rd ((rd_T30 l0 x14_4).f2) x15_5)))) > x11_5
                                           ·rw [if_pos c72] at H
                                            have c72b0 : decide (x11_5 < (wrap64 ((rd x9_5 x14_4) + (rd l1 (rd ((rd_T30 l0 x14_4).f2) x15_5))))) = true := decide_eq_true c72
                                            clear c72
                                            have H' := Aside0.mk H
                                            clear H
                                            have p69 : 0 ≤ ((rd ((rd_T30 l0 x14_4).f2) x15_5) : Int) := of_decide_eq_true (by first | (with_reducible assumption) | assumption)
                                            have q69 : ((rd ((rd_T30 l0 x14_4).f2) x15_5) : Int) < ((x9_5.length : Int) : Int) := of_decide_eq_true (by first | (with_reducible assumption) | assumption)
                                            obtain ⟨hx69_0, hf69_0⟩ := Kd.R_celln 0 HO_9.out ((rd ((rd_T30 l0 x14_4).f2) x15_5) : Int) p69 q69
                                            replace p69 := eq_true p69
                                            replace q69 := eq_true q69
                                            have HP73 := Kd.R_putg HO_9.out ((rd ((rd_T30 l0 x14_4).f2) x15_5) : Int) (wrap64 ((rd x9_5 x14_4) + (rd l1 (rd ((rd_T30 l0 x14_4).f2) x15_5))))
                                            go_wp2_with (first | ((with_reducible refine gate_store (t := 3) (p := 152) rfl ?_); (try (rw [drewN_self wc]; generalize hq_ : World.drewN wc _ = wc; have n0_ := Aside0.mk (Kd.R_at hq_ HO_7.out); have n1_ := Aside0.mk (Kd.R_at hq_ HO_9.out); have n2_ := Aside0.mk (Kd.R_at hq_ HO_10.out); have n3_ := Aside0.mk (below_at hq_ HB.out); clear hq_ HO_7 HO_9 HO_10 HB; have HO_7 := n0_; have HO_9 := n1_; have HO_10 := n2_; have HB := n3_; clear n0_ n1_ n2_ n3_; (try (have HP73 := Kd.R_putg HO_9.out ((rd ((rd_T30 l0 x14_4).f2) x15_5) : Int) (wrap64 ((rd x9_5 x14_4) + (rd l1 (rd ((rd_T30 l0 x14_4).f2) x15_5)))))))); refine store_event (t := 3) (p := 152) (v := ?vo_w74) (w1 := (wc.setCell ⟨go15, ((rd ((rd_T30 l0 x14_4).f2) x15_5) : Int).toNat, none⟩ (.int .i64 (wrap64 ((rd x9_5 x14_4) + (rd l1 (rd ((rd_T30 l0 x14_4).f2) x15_5))))))) ?hg ?ho ?hn ?hr ?_; (case ho => rfl); (case hg => rfl); (case hn => rfl); (case hr => first | (go_simp; done) | (go_simp; rfl)); intro w74 hw; have hg : wc.grownBy w74 (some go15) := (by rw [hw]; exact HP73.2); have hp_ : Kd.R (Kd.int .i64) 3 w74 w.heap.size (fun _ => True) (.slice (some ⟨go15, 0, none⟩) x9_5.length co15) y481 := (by rw [hw, Ny481.out]; exact HP73.1); clear HP73; have n0_ := Aside0.mk (Kd.R_over' (v := (.slice (some ⟨go15, 0, none⟩) x9_5.length co15)) (by (with_reducible repeat (first | apply Kd.R_alloc | apply Kd.R_drewN | apply Kd.R_drew)); exact HO_7.out) (Kd.R_typed HO_9.out) (by decide) hg); have n1_ := Aside0.mk (hp_); have n2_ := Aside0.mk (Kd.R_over' (v := (.slice (some ⟨go15, 0, none⟩) x9_5.length co15)) (by (with_reducible repeat (first | apply Kd.R_alloc | apply Kd.R_drewN | apply Kd.R_drew)); exact HO_10.out) (Kd.R_typed HO_9.out) (by decide) hg); have n3_ := Aside0.mk ((by rw [hw]; exact below_set (HB.out) GB15.out : Below w.heap.size w w74)); clear HO_7; clear HO_9; clear HO_10; clear HB; have HO_7 := n0_; have HO_9 := n1_; have HO_10 := n2_; have HB := n3_; clear n0_ n1_ n2_ n3_; clear hg hw hp_; have p71 : 0 ≤ ((rd ((rd_T30 l0 x14_4).f2) x15_5) : Int) := of_decide_eq_true (by first | (with_reducible assumption) | assumption); have q71 : ((rd ((rd_T30 l0 x14_4).f2) x15_5) : Int) < ((x10_5.length : Int) : Int) := of_decide_eq_true (by first | (with_reducible assumption) | assumption); obtain ⟨hx71_0, hf71_0⟩ := Kd.R_celln false HO_10.out ((rd ((rd_T30 l0 x14_4).f2) x15_5) : Int) p71 q71; replace p71 := eq_true p71; replace q71 := eq_true q71; obtain ⟨hy75_, hz75_⟩ := Kd.R_celln false HO_10.out ((rd ((rd_T30 l0 x14_4).f2) x15_5) : Int) (of_decide_eq_true (by first | (with_reducible assumption) | assumption)) (of_decide_eq_true (by first | (with_reducible assumption) | assumption)); have HP75 := Kd.R_putg HO_10.out ((rd ((rd_T30 l0 x14_4).f2) x15_5) : Int) true) | ((with_reducible refine gate_store (t := 4) (p := 153) rfl ?_); (try (rw [drewN_self w74]; generalize hq_ : World.drewN w74 _ = w74; have n0_ := Aside0.mk (Kd.R_at hq_ HO_7.out); have n1_ := Aside0.mk (Kd.R_at hq_ HO_9.out); have n2_ := Aside0.mk (Kd.R_at hq_ HO_10.out); have n3_ := Aside0.mk (below_at hq_ HB.out); clear hq_ HO_7 HO_9 HO_10 HB; have HO_7 := n0_; have HO_9 := n1_; have HO_10 := n2_; have HB := n3_; clear n0_ n1_ n2_ n3_; (try (obtain ⟨hy75_, hz75_⟩ := Kd.R_celln false HO_10.out ((rd ((rd_T30 l0 x14_4).f2) x15_5) : Int) (of_decide_eq_true (by first | (with_reducible assumption) | assumption)) (of_decide_eq_true (by first | (with_reducible assumption) | assumption)))); (try (have HP75 := Kd.R_putg HO_10.out ((rd ((rd_T30 l0 x14_4).f2) x15_5) : Int) true)))); refine store_event (t := 4) (p := 153) (v := ?vo_w76) (w1 := (w74.setCell ⟨go17, ((rd ((rd_T30 l0 x14_4).f2) x15_5) : Int).toNat, none⟩ (.bool true))) ?hg ?ho ?hn ?hr ?_; (case ho => rfl); (case hg => rfl); (case hn => rfl); (case hr => first | (go_simp; done) | (go_simp; rfl)); intro w76 hw; have hg : w74.grownBy w76 (some go17) := (by rw [hw]; exact HP75.2); have hp_ : Kd.R Kd.bool 4 w76 w.heap.size (fun k_ => some k_ ≠ (v453 : Value).ownBlock) (.slice (some ⟨go17, 0, none⟩) x10_5.length co17) y482 := (by rw [hw, Ny482.out]; exact HP75.1); clear HP75; have n0_ := Aside0.mk (Kd.R_after (v := (.slice (some ⟨go17, 0, none⟩) x10_5.length co17)) (v1 := (.slice (some ⟨go17, 0, none⟩) x10_5.length co17)) (ok := (fun _ => True)) (by (with_reducible repeat (first | apply Kd.R_alloc | apply Kd.R_drewN | apply Kd.R_drew)); exact Kd.R_mono HO_7.out (fun _ hk => ⟨trivial, hk⟩)) hg (.inl rfl)); have n1_ := Aside0.mk (Kd.R_over' (v := (.slice (some ⟨go17, 0, none⟩) x10_5.length co17)) (by (with_reducible repeat (first | apply Kd.R_alloc | apply Kd.R_drewN | apply Kd.R_drew)); exact HO_9.out) (Kd.R_typed HO_10.out) (by decide) hg); have n2_ := Aside0.mk (hp_); have n3_ := Aside0.mk ((by rw [hw]; exact below_set (HB.out) GB17.out : Below w.heap.size w w76)); clear HO_7; clear HO_9; clear HO_10; clear HB; have HO_7 := n0_; have HO_9 := n1_; have HO_10 := n2_; have HB := n3_; clear n0_ n1_ n2_ n3_; clear hg hw hp_))
                                            repeat (go_quiet (first | ((with_reducible refine gate_store (t := 3) (p := 152) rfl ?_); (try (rw [drewN_self wc]; generalize hq_ : World.drewN wc _ = wc; have n0_ := Aside0.mk (Kd.R_at hq_ HO_7.out); have n1_ := Aside0.mk (Kd.R_at hq_ HO_9.out); have n2_ := Aside0.mk (Kd.R_at hq_ HO_10.out); have n3_ := Aside0.mk (below_at hq_ HB.out); clear hq_ HO_7 HO_9 HO_10 HB; have HO_7 := n0_; have HO_9 := n1_; have HO_10 := n2_; have HB := n3_; clear n0_ n1_ n2_ n3_; (try (have HP73 := Kd.R_putg HO_9.out ((rd ((rd_T30 l0 x14_4).f2) x15_5) : Int) (wrap64 ((rd x9_5 x14_4) + (rd l1 (rd ((rd_T30 l0 x14_4).f2) x15_5)))))))); refine store_event (t := 3) (p := 152) (v := ?vo_w74) (w1 := (wc.setCell ⟨go15, ((rd ((rd_T30 l0 x14_4).f2) x15_5) : Int).toNat, none⟩ (.int .i64 (wrap64 ((rd x9_5 x14_4) + (rd l1 (rd ((rd_T30 l0 x14_4).f2) x15_5))))))) ?hg ?ho ?hn ?hr ?_; (case ho => rfl); (case hg => rfl); (case hn => rfl); (case hr => first | (go_simp; done) | (go_simp; rfl)); intro w74 hw; have hg : wc.grownBy w74 (some go15) := (by rw [hw]; exact HP73.2); have hp_ : Kd.R (Kd.int .i64) 3 w74 w.heap.size (fun _ => True) (.slice (some ⟨go15, 0, none⟩) x9_5.length co15) y481 := (by rw [hw, Ny481.out]; exact HP73.1); clear HP73; have n0_ := Aside0.mk (Kd.R_over' (v := (.slice (some ⟨go15, 0, none⟩) x9_5.length co15)) (by (with_reducible repeat (first | apply Kd.R_alloc | apply Kd.R_drewN | apply Kd.R_drew)); exact HO_7.out) (Kd.R_typed HO_9.out) (by decide) hg); have n1_ := Aside0.mk (hp_); have n2_ := Aside0.mk (Kd.R_over' (v := (.slice (some ⟨go15, 0, none⟩) x9_5.length co15)) (by (with_reducible repeat (first | apply Kd.R_alloc | apply Kd.R_drewN | apply Kd.R_drew)); exact HO_10.out) (Kd.R_typed HO_9.out) (by decide) hg); have n3_ := Aside0.mk ((by rw [hw]; exact below_set (HB.out) GB15.out : Below w.heap.size w w74)); clear HO_7; clear HO_9; clear HO_10; clear HB; have HO_7 := n0_; have HO_9 := n1_; have HO_10 := n2_; have HB := n3_; clear n0_ n1_ n2_ n3_; clear hg hw hp_; have p71 : 0 ≤ ((rd ((rd_T30 l0 x14_4).f2) x15_5) : Int) := of_decide_eq_true (by first | (with_reducible assumption) | assumption); have q71 : ((rd ((rd_T30 l0 x14_4).f2) x15_5) : Int) < ((x10_5.length : Int) : Int) := of_decide_eq_true (by first | (with_reducible assumption) | assumption); obtain ⟨hx71_0, hf71_0⟩ := Kd.R_celln false HO_10.out ((rd ((rd_T30 l0 x14_4).f2) x15_5) : Int) p71 q71; replace p71 := eq_true p71; replace q71 := eq_true q71; obtain ⟨hy75_, hz75_⟩ := Kd.R_celln false HO_10.out ((rd ((rd_T30 l0 x14_4).f2) x15_5) : Int) (of_decide_eq_true (by first | (with_reducible assumption) | assumption)) (of_decide_eq_true (by first | (with_reducible assumption) | assumption)); have HP75 := Kd.R_putg HO_10.out ((rd ((rd_T30 l0 x14_4).f2) x15_5) : Int) true) | ((with_reducible refine gate_store (t := 4) (p := 153) rfl ?_); (try (rw [drewN_self w74]; generalize hq_ : World.drewN w74 _ = w74; have n0_ := Aside0.mk (Kd.R_at hq_ HO_7.out); have n1_ := Aside0.mk (Kd.R_at hq_ HO_9.out); have n2_ := Aside0.mk (Kd.R_at hq_ HO_10.out); have n3_ := Aside0.mk (below_at hq_ HB.out); clear hq_ HO_7 HO_9 HO_10 HB; have HO_7 := n0_; have HO_9 := n1_; have HO_10 := n2_; have HB := n3_; clear n0_ n1_ n2_ n3_; (try (obtain ⟨hy75_, hz75_⟩ := Kd.R_celln false HO_10.out ((rd ((rd_T30 l0 x14_4).f2) x15_5) : Int) (of_decide_eq_true (by first | (with_reducible assumption) | assumption)) (of_decide_eq_true (by first | (with_reducible assumption) | assumption)))); (try (have HP75 := Kd.R_putg HO_10.out ((rd ((rd_T30 l0 x14_4).f2) x15_5) : Int) true)))); refine store_event (t := 4) (p := 153) (v := ?vo_w76) (w1 := (w74.setCell ⟨go17, ((rd ((rd_T30 l0 x14_4).f2) x15_5) : Int).toNat, none⟩ (.bool true))) ?hg ?ho ?hn ?hr ?_; (case ho => rfl); (case hg => rfl); (case hn => rfl); (case hr => first | (go_simp; done) | (go_simp; rfl)); intro w76 hw; have hg : w74.grownBy w76 (some go17) := (by rw [hw]; exact HP75.2); have hp_ : Kd.R Kd.bool 4 w76 w.heap.size (fun k_ => some k_ ≠ (v453 : Value).ownBlock) (.slice (some ⟨go17, 0, none⟩) x10_5.length co17) y482 := (by rw [hw, Ny482.out]; exact HP75.1); clear HP75; have n0_ := Aside0.mk (Kd.R_after (v := (.slice (some ⟨go17, 0, none⟩) x10_5.length co17)) (v1 := (.slice (some ⟨go17, 0, none⟩) x10_5.length co17)) (ok := (fun _ => True)) (by (with_reducible repeat (first | apply Kd.R_alloc | apply Kd.R_drewN | apply Kd.R_drew)); exact Kd.R_mono HO_7.out (fun _ hk => ⟨trivial, hk⟩)) hg (.inl rfl)); have n1_ := Aside0.mk (Kd.R_over' (v := (.slice (some ⟨go17, 0, none⟩) x10_5.length co17)) (by (with_reducible repeat (first | apply Kd.R_alloc | apply Kd.R_drewN | apply Kd.R_drew)); exact HO_9.out) (Kd.R_typed HO_10.out) (by decide) hg); have n2_ := Aside0.mk (hp_); have n3_ := Aside0.mk ((by rw [hw]; exact below_set (HB.out) GB17.out : Below w.heap.size w w76)); clear HO_7; clear HO_9; clear HO_10; clear HB; have HO_7 := n0_; have HO_9 := n1_; have HO_10 := n2_; have HB := n3_; clear n0_ n1_ n2_ n3_; clear hg hw hp_)); try go_wp2_with (first | ((with_reducible refine gate_store (t := 3) (p := 152) rfl ?_); (try (rw [drewN_self wc]; generalize hq_ : World.drewN wc _ = wc; have n0_ := Aside0.mk (Kd.R_at hq_ HO_7.out); have n1_ := Aside0.mk (Kd.R_at hq_ HO_9.out); have n2_ := Aside0.mk (Kd.R_at hq_ HO_10.out); have n3_ := Aside0.mk (below_at hq_ HB.out); clear hq_ HO_7 HO_9 HO_10 HB; have HO_7 := n0_; have HO_9 := n1_; have HO_10 := n2_; have HB := n3_; clear n0_ n1_ n2_ n3_; (try (have HP73 := Kd.R_putg HO_9.out ((rd ((rd_T30 l0 x14_4).f2) x15_5) : Int) (wrap64 ((rd x9_5 x14_4) + (rd l1 (rd ((rd_T30 l0 x14_4).f2) x15_5)))))))); refine store_event (t := 3) (p := 152) (v := ?vo_w74) (w1 := (wc.setCell ⟨go15, ((rd ((rd_T30 l0 x14_4).f2) x15_5) : Int).toNat, none⟩ (.int .i64 (wrap64 ((rd x9_5 x14_4) + (rd l1 (rd ((rd_T30 l0 x14_4).f2) x15_5))))))) ?hg ?ho ?hn ?hr ?_; (case ho => rfl); (case hg => rfl); (case hn => rfl); (case hr => first | (go_simp; done) | (go_simp; rfl)); intro w74 hw; have hg : wc.grownBy w74 (some go15) := (by rw [hw]; exact HP73.2); have hp_ : Kd.R (Kd.int .i64) 3 w74 w.heap.size (fun _ => True) (.slice (some ⟨go15, 0, none⟩) x9_5.length co15) y481 := (by rw [hw, Ny481.out]; exact HP73.1); clear HP73; have n0_ := Aside0.mk (Kd.R_over' (v := (.slice (some ⟨go15, 0, none⟩) x9_5.length co15)) (by (with_reducible repeat (first | apply Kd.R_alloc | apply Kd.R_drewN | apply Kd.R_drew)); exact HO_7.out) (Kd.R_typed HO_9.out) (by decide) hg); have n1_ := Aside0.mk (hp_); have n2_ := Aside0.mk (Kd.R_over' (v := (.slice (some ⟨go15, 0, none⟩) x9_5.length co15)) (by (with_reducible repeat (first | apply Kd.R_alloc | apply Kd.R_drewN | apply Kd.R_drew)); exact HO_10.out) (Kd.R_typed HO_9.out) (by decide) hg); have n3_ := Aside0.mk ((by rw [hw]; exact below_set (HB.out) GB15.out : Below w.heap.size w w74)); clear HO_7; clear HO_9; clear HO_10; clear HB; have HO_7 := n0_; have HO_9 := n1_; have HO_10 := n2_; have HB := n3_; clear n0_ n1_ n2_ n3_; clear hg hw hp_; have p71 : 0 ≤ ((rd ((rd_T30 l0 x14_4).f2) x15_5) : Int) := of_decide_eq_true (by first | (with_reducible assumption) | assumption); have q71 : ((rd ((rd_T30 l0 x14_4).f2) x15_5) : Int) < ((x10_5.length : Int) : Int) := of_decide_eq_true (by first | (with_reducible assumption) | assumption); obtain ⟨hx71_0, hf71_0⟩ := Kd.R_celln false HO_10.out ((rd ((rd_T30 l0 x14_4).f2) x15_5) : Int) p71 q71; replace p71 := eq_true p71; replace q71 := eq_true q71; obtain ⟨hy75_, hz75_⟩ := Kd.R_celln false HO_10.out ((rd ((rd_T30 l0 x14_4).f2) x15_5) : Int) (of_decide_eq_true (by first | (with_reducible assumption) | assumption)) (of_decide_eq_true (by first | (with_reducible assumption) | assumption)); have HP75 := Kd.R_putg HO_10.out ((rd ((rd_T30 l0 x14_4).f2) x15_5) : Int) true) | ((with_reducible refine gate_store (t := 4) (p := 153) rfl ?_); (try (rw [drewN_self w74]; generalize hq_ : World.drewN w74 _ = w74; have n0_ := Aside0.mk (Kd.R_at hq_ HO_7.out); have n1_ := Aside0.mk (Kd.R_at hq_ HO_9.out); have n2_ := Aside0.mk (Kd.R_at hq_ HO_10.out); have n3_ := Aside0.mk (below_at hq_ HB.out); clear hq_ HO_7 HO_9 HO_10 HB; have HO_7 := n0_; have HO_9 := n1_; have HO_10 := n2_; have HB := n3_; clear n0_ n1_ n2_ n3_; (try (obtain ⟨hy75_, hz75_⟩ := Kd.R_celln false HO_10.out ((rd ((rd_T30 l0 x14_4).f2) x15_5) : Int) (of_decide_eq_true (by first | (with_reducible assumption) | assumption)) (of_decide_eq_true (by first | (with_reducible assumption) | assumption)))); (try (have HP75 := Kd.R_putg HO_10.out ((rd ((rd_T30 l0 x14_4).f2) x15_5) : Int) true)))); refine store_event (t := 4) (p := 153) (v := ?vo_w76) (w1 := (w74.setCell ⟨go17, ((rd ((rd_T30 l0 x14_4).f2) x15_5) : Int).toNat, none⟩ (.bool true))) ?hg ?ho ?hn ?hr ?_; (case ho => rfl); (case hg => rfl); (case hn => rfl); (case hr => first | (go_simp; done) | (go_simp; rfl)); intro w76 hw; have hg : w74.grownBy w76 (some go17) := (by rw [hw]; exact HP75.2); have hp_ : Kd.R Kd.bool 4 w76 w.heap.size (fun k_ => some k_ ≠ (v453 : Value).ownBlock) (.slice (some ⟨go17, 0, none⟩) x10_5.length co17) y482 := (by rw [hw, Ny482.out]; exact HP75.1); clear HP75; have n0_ := Aside0.mk (Kd.R_after (v := (.slice (some ⟨go17, 0, none⟩) x10_5.length co17)) (v1 := (.slice (some ⟨go17, 0, none⟩) x10_5.length co17)) (ok := (fun _ => True)) (by (with_reducible repeat (first | apply Kd.R_alloc | apply Kd.R_drewN | apply Kd.R_drew)); exact Kd.R_mono HO_7.out (fun _ hk => ⟨trivial, hk⟩)) hg (.inl rfl)); have n1_ := Aside0.mk (Kd.R_over' (v := (.slice (some ⟨go17, 0, none⟩) x10_5.length co17)) (by (with_reducible repeat (first | apply Kd.R_alloc | apply Kd.R_drewN | apply Kd.R_drew)); exact HO_9.out) (Kd.R_typed HO_10.out) (by decide) hg); have n2_ := Aside0.mk (hp_); have n3_ := Aside0.mk ((by rw [hw]; exact below_set (HB.out) GB17.out : Below w.heap.size w w76)); clear HO_7; clear HO_9; clear HO_10; clear HB; have HO_7 := n0_; have HO_9 := n1_; have HO_10 := n2_; have HB := n3_; clear n0_ n1_ n2_ n3_; clear hg hw hp_)))
                                            (try simp only [← hl9_5, ← hl10_5])
                                            go_roundg kj60
                                            case measure => have := HJ2.out; have := HK2.out; have := HK3.out; have := HK4.out; have := HK5.out; have := HJ38.out; have := HJ48.out; have := HJ60.out; omega
                                            case rel => exact ⟨(y481), (y482), ((wrap64 ((rd x9_5 x14_4) + (rd l1 (rd ((rd_T30 l0 x14_4).f2) x15_5))))), (true), (wrap64 (x15_5 + 1)), (by first | rfl | (simp; done) | (simp [*]; done)), (by first | rfl | (simp; done) | (simp [*]; done)), (by first | rfl | (simp; done) | (simp [*]; done)), H', ⟨by have := HJ2.out; have := HK2.out; have := HK3.out; have := HK4.out; have := HK5.out; have := HJ38.out; have := HJ48.out; have := HJ60.out; omega⟩, ⟨by (try simp only [hl9_3]); (try simp only [hl10_3]); (try simp only [hl9_4]); (try simp only [hl10_4]); (try simp only [hl9_5]); (try simp only [hl10_5]); (with_reducible repeat (first | apply Kd.R_alloc | apply Kd.R_drewN | apply Kd.R_drew)); exact Kd.R_mono HO_7.out (fun _ hk => hk.2)⟩, ⟨by (try simp only [hl9_3]); (try simp only [hl10_3]); (try simp only [hl9_4]); (try simp only [hl10_4]); (try simp only [hl9_5]); (try simp only [hl10_5]); (with_reducible repeat (first | apply Kd.R_alloc | apply Kd.R_drewN | apply Kd.R_drew)); exact HO_9.out⟩, ⟨by (try simp only [hl9_3]); (try simp only [hl10_3]); (try simp only [hl9_4]); (try simp only [hl10_4]); (try simp only [hl9_5]); (try simp only [hl10_5]); (with_reducible repeat (first | apply Kd.R_alloc | apply Kd.R_drewN | apply Kd.R_drew)); exact HO_10.out⟩, ⟨by repeat (first | (with_reducible first | exact HB.out | apply below_alloc | apply pw_below_drewN | apply below_drew1) | exact HB.out)⟩⟩
                                           ·rw [if_neg c72] at H
                                            have c72b0 : decide (x11_5 < (wrap64 ((rd x9_5 x14_4) + (rd l1 (rd ((rd_T30 l0 x14_4).f2) x15_5))))) = false := decide_eq_false c72
                                            clear c72
                                            have H' := Aside0.mk H
                                            clear H
                                            have p69 : 0 ≤ ((rd ((rd_T30 l0 x14_4).f2) x15_5) : Int) := of_decide_eq_true (by first | (with_reducible assumption) | assumption)
                                            have q69 : ((rd ((rd_T30 l0 x14_4).f2) x15_5) : Int) < ((x9_5.length : Int) : Int) := of_decide_eq_true (by first | (with_reducible assumption) | assumption)
                                            obtain ⟨hx69_0, hf69_0⟩ := Kd.R_celln 0 HO_9.out ((rd ((rd_T30 l0 x14_4).f2) x15_5) : Int) p69 q69
                                            replace p69 := eq_true p69
                                            replace q69 := eq_true q69
                                            have HP77 := Kd.R_putg HO_9.out ((rd ((rd_T30 l0 x14_4).f2) x15_5) : Int) (wrap64 ((rd x9_5 x14_4) + (rd l1 (rd ((rd_T30 l0 x14_4).f2) x15_5))))
                                            go_wp2_with (first | ((with_reducible refine gate_store (t := 3) (p := 152) rfl ?_); (try (rw [drewN_self wc]; generalize hq_ : World.drewN wc _ = wc; have n0_ := Aside0.mk (Kd.R_at hq_ HO_7.out); have n1_ := Aside0.mk (Kd.R_at hq_ HO_9.out); have n2_ := Aside0.mk (Kd.R_at hq_ HO_10.out); have n3_ := Aside0.mk (below_at hq_ HB.out); clear hq_ HO_7 HO_9 HO_10 HB; have HO_7 := n0_; have HO_9 := n1_; have HO_10 := n2_; have HB := n3_; clear n0_ n1_ n2_ n3_; (try (have HP77 := Kd.R_putg HO_9.out ((rd ((rd_T30 l0 x14_4).f2) x15_5) : Int) (wrap64 ((rd x9_5 x14_4) + (rd l1 (rd ((rd_T30 l0 x14_4).f2) x15_5)))))))); refine store_event (t := 3) (p := 152) (v := ?vo_w78) (w1 := (wc.setCell ⟨go15, ((rd ((rd_T30 l0 x14_4).f2) x15_5) : Int).toNat, none⟩ (.int .i64 (wrap64 ((rd x9_5 x14_4) + (rd l1 (rd ((rd_T30 l0 x14_4).f2) x15_5))))))) ?hg ?ho ?hn ?hr ?_; (case ho => rfl); (case hg => rfl); (case hn => rfl); (case hr => first | (go_simp; done) | (go_simp; rfl)); intro w78 hw; have hg : wc.grownBy w78 (some go15) := (by rw [hw]; exact HP77.2); have hp_ : Kd.R (Kd.int .i64) 3 w78 w.heap.size (fun _ => True) (.slice (some ⟨go15, 0, none⟩) x9_5.length co15) y481 := (by rw [hw, Ny481.out]; exact HP77.1); clear HP77; have n0_ := Aside0.mk (Kd.R_over' (v := (.slice (some ⟨go15, 0, none⟩) x9_5.length co15)) (by (with_reducible repeat (first | apply Kd.R_alloc | apply Kd.R_drewN | apply Kd.R_drew)); exact HO_7.out) (Kd.R_typed HO_9.out) (by decide) hg); have n1_ := Aside0.mk (hp_); have n2_ := Aside0.mk (Kd.R_over' (v := (.slice (some ⟨go15, 0, none⟩) x9_5.length co15)) (by (with_reducible repeat (first | apply Kd.R_alloc | apply Kd.R_drewN | apply Kd.R_drew)); exact HO_10.out) (Kd.R_typed HO_9.out) (by decide) hg); have n3_ := Aside0.mk ((by rw [hw]; exact below_set (HB.out) GB15.out : Below w.heap.size w w78)); clear HO_7; clear HO_9; clear HO_10; clear HB; have HO_7 := n0_; have HO_9 := n1_; have HO_10 := n2_; have HB := n3_; clear n0_ n1_ n2_ n3_; clear hg hw hp_; have p71 : 0 ≤ ((rd ((rd_T30 l0 x14_4).f2) x15_5) : Int) := of_decide_eq_true (by first | (with_reducible assumption) | assumption); have q71 : ((rd ((rd_T30 l0 x14_4).f2) x15_5) : Int) < ((x10_5.length : Int) : Int) := of_decide_eq_true (by first | (with_reducible assumption) | assumption); obtain ⟨hx71_0, hf71_0⟩ := Kd.R_celln false HO_10.out ((rd ((rd_T30 l0 x14_4).f2) x15_5) : Int) p71 q71; replace p71 := eq_true p71; replace q71 := eq_true q71; obtain ⟨hy79_, hz79_⟩ := Kd.R_celln false HO_10.out ((rd ((rd_T30 l0 x14_4).f2) x15_5) : Int) (of_decide_eq_true (by first | (with_reducible assumption) | assumption)) (of_decide_eq_true (by first | (with_reducible assumption) | assumption)); have HP79 := Kd.R_putg HO_10.out ((rd ((rd_T30 l0 x14_4).f2) x15_5) : Int) true) | ((with_reducible refine gate_store (t := 4) (p := 153) rfl ?_); (try (rw [drewN_self w78]; generalize hq_ : World.drewN w78 _ = w78; have n0_ := Aside0.mk (Kd.R_at hq_ HO_7.out); have n1_ := Aside0.mk (Kd.R_at hq_ HO_9.out); have n2_ := Aside0.mk (Kd.R_at hq_ HO_10.out); have n3_ := Aside0.mk (below_at hq_ HB.out); clear hq_ HO_7 HO_9 HO_10 HB; have HO_7 := n0_; have HO_9 := n1_; have HO_10 := n2_; have HB := n3_; clear n0_ n1_ n2_ n3_; (try (obtain ⟨hy79_, hz79_⟩ := Kd.R_celln false HO_10.out ((rd ((rd_T30 l0 x14_4).f2) x15_5) : Int) (of_decide_eq_true (by first | (with_reducible assumption) | assumption)) (of_decide_eq_true (by first | (with_reducible assumption) | assumption)))); (try (have HP79 := Kd.R_putg HO_10.out ((rd ((rd_T30 l0 x14_4).f2) x15_5) : Int) true)))); refine store_event (t := 4) (p := 153) (v := ?vo_w80) (w1 := (w78.setCell ⟨go17, ((rd ((rd_T30 l0 x14_4).f2) x15_5) : Int).toNat, none⟩ (.bool true))) ?hg ?ho ?hn ?hr ?_; (case ho => rfl); (case hg => rfl); (case hn => rfl); (case hr => first | (go_simp; done) | (go_simp; rfl)); intro w80 hw; have hg : w78.grownBy w80 (some go17) := (by rw [hw]; exact HP79.2); have hp_ : Kd.R Kd.bool 4 w80 w.heap.size (fun k_ => some k_ ≠ (v453 : Value).ownBlock) (.slice (some ⟨go17, 0, none⟩) x10_5.length co17) y482 := (by rw [hw, Ny482.out]; exact HP79.1); clear HP79; have n0_ := Aside0.mk (Kd.R_after (v := (.slice (some ⟨go17, 0, none⟩) x10_5.length co17)) (v1 := (.slice (some ⟨go17, 0, none⟩) x10_5.length co17)) (ok := (fun _ => True)) (by (with_reducible repeat (first | apply Kd.R_alloc | apply Kd.R_drewN | apply Kd.R_drew)); exact Kd.R_mono HO_7.out (fun _ hk => ⟨trivial, hk⟩)) hg (.inl rfl)); have n1_ := Aside0.mk (Kd.R_over' (v := (.slice (some ⟨go17, 0, none⟩) x10_5.length co17)) (by (with_reducible repeat (first | apply Kd.R_alloc | apply Kd.R_drewN | apply Kd.R_drew)); exact HO_9.out) (Kd.R_typed HO_10.out) (by decide) hg); have n2_ := Aside0.mk (hp_); have n3_ := Aside0.mk ((by rw [hw]; exact below_set (HB.out) GB17.out : Below w.heap.size w w80)); clear HO_7; clear HO_9; clear HO_10; clear HB; have HO_7 := n0_; have HO_9 := n1_; have HO_10 := n2_; have HB := n3_; clear n0_ n1_ n2_ n3_; clear hg hw hp_))
                                            repeat (go_quiet (first | ((with_reducible refine gate_store (t := 3) (p := 152) rfl ?_); (try (rw [drewN_self wc]; generalize hq_ : World.drewN wc _ = wc; have n0_ := Aside0.mk (Kd.R_at hq_ HO_7.out); have n1_ := Aside0.mk (Kd.R_at hq_ HO_9.out); have n2_ := Aside0.mk (Kd.R_at hq_ HO_10.out); have n3_ := Aside0.mk (below_at hq_ HB.out); clear hq_ HO_7 HO_9 HO_10 HB; have HO_7 := n0_; have HO_9 := n1_; have HO_10 := n2_; have HB := n3_; clear n0_ n1_ n2_ n3_; (try (have HP77 := Kd.R_putg HO_9.out ((rd ((rd_T30 l0 x14_4).f2) x15_5) : Int) (wrap64 ((rd x9_5 x14_4) + (rd l1 (rd ((rd_T30 l0 x14_4).f2) x15_5)))))))); refine store_event (t := 3) (p := 152) (v := ?vo_w78) (w1 := (wc.setCell ⟨go15, ((rd ((rd_T30 l0 x14_4).f2) x15_5) : Int).toNat, none⟩ (.int .i64 (wrap64 ((rd x9_5 x14_4) + (rd l1 (rd ((rd_T30 l0 x14_4).f2) x15_5))))))) ?hg ?ho ?hn ?hr ?_; (case ho => rfl); (case hg => rfl); (case hn => rfl); (case hr => first | (go_simp; done) | (go_simp; rfl)); intro w78 hw; have hg : wc.grownBy w78 (some go15) := (by rw [hw]; exact HP77.2); have hp_ : Kd.R (Kd.int .i64) 3 w78 w.heap.size (fun _ => True) (.slice (some ⟨go15, 0, none⟩) x9_5.length co15) y481 := (by rw [hw, Ny481.out]; exact HP77.1); clear HP77; have n0_ := Aside0.mk (Kd.R_over' (v := (.slice (some ⟨go15, 0, none⟩) x9_5.length co15)) (by (with_reducible repeat (first | apply Kd.R_alloc | apply Kd.R_drewN | apply Kd.R_drew)); exact HO_7.out) (Kd.R_typed HO_9.out) (by decide) hg); have n1_ := Aside0.mk (hp_); have n2_ := Aside0.mk (Kd.R_over' (v := (.slice (some ⟨go15, 0, none⟩) x9_5.length co15)) (by (with_reducible repeat (first | apply Kd.R_alloc | apply Kd.R_drewN | apply Kd.R_drew)); exact HO_10.out) (Kd.R_typed HO_9.out) (by decide) hg); have n3_ := Aside0.mk ((by rw [hw]; exact below_set (HB.out) GB15.out : Below w.heap.size w w78)); clear HO_7; clear HO_9; clear HO_10; clear HB; have HO_7 := n0_; have HO_9 := n1_; have HO_10 := n2_; have HB := n3_; clear n0_ n1_ n2_ n3_; clear hg hw hp_; have p71 : 0 ≤ ((rd ((rd_T30 l0 x14_4).f2) x15_5) : Int) := of_decide_eq_true (by first | (with_reducible assumption) | assumption); have q71 : ((rd ((rd_T30 l0 x14_4).f2) x15_5) : Int) < ((x10_5.length : Int) : Int) := of_decide_eq_true (by first | (with_reducible assumption) | assumption); obtain ⟨hx71_0, hf71_0⟩ := Kd.R_celln false HO_10.out ((rd ((rd_T30 l0 x14_4).f2) x15_5) : Int) p71 q71; replace p71 := eq_true p71; replace q71 := eq_true q71; obtain ⟨hy79_, hz79_⟩ := Kd.R_celln false HO_10.out ((rd ((rd_T30 l0 x14_4).f2) x15_5) : Int) (of_decide_eq_true (by first | (with_reducible assumption) | assumption)) (of_decide_eq_true (by first | (with_reducible assumption) | assumption)); have HP79 := Kd.R_putg HO_10.out ((rd ((rd_T30 l0 x14_4).f2) x15_5) : Int) true) | ((with_reducible refine gate_store (t := 4) (p := 153) rfl ?_); (try (rw [drewN_self w78]; generalize hq_ : World.drewN w78 _ = w78; have n0_ := Aside0.mk (Kd.R_at hq_ HO_7.out); have n1_ := Aside0.mk (Kd.R_at hq_ HO_9.out); have n2_ := Aside0.mk (Kd.R_at hq_ HO_10.out); have n3_ := Aside0.mk (below_at hq_ HB.out); clear hq_ HO_7 HO_9 HO_10 HB; have HO_7 := n0_; have HO_9 := n1_; have HO_10 := n2_; have HB := n3_; clear n0_ n1_ n2_ n3_; (try (obtain ⟨hy79_, hz79_⟩ := Kd.R_celln false HO_10.out ((rd ((rd_T30 l0 x14_4).f2) x15_5) : Int) (of_decide_eq_true (by first | (with_reducible assumption) | assumption)) (of_decide_eq_true (by first | (with_reducible assumption) | assumption)))); (try (have HP79 := Kd.R_putg HO_10.out ((rd ((rd_T30 l0 x14_4).f2) x15_5) : Int) true)))); refine store_event (t := 4) (p := 153) (v := ?vo_w80) (w1 := (w78.setCell ⟨go17, ((rd ((rd_T30 l0 x14_4).f2) x15_5) : Int).toNat, none⟩ (.bool true))) ?hg ?ho ?hn ?hr ?_; (case ho => rfl); (case hg => rfl); (case hn => rfl); (case hr => first | (go_simp; done) | (go_simp; rfl)); intro w80 hw; have hg : w78.grownBy w80 (some go17) := (by rw [hw]; exact HP79.2); have hp_ : Kd.R Kd.bool 4 w80 w.heap.size (fun k_ => some k_ ≠ (v453 : Value).ownBlock) (.slice (some ⟨go17, 0, none⟩) x10_5.length co17) y482 := (by rw [hw, Ny482.out]; exact HP79.1); clear HP79; have n0_ := Aside0.mk (Kd.R_after (v := (.slice (some ⟨go17, 0, none⟩) x10_5.length co17)) (v1 := (.slice (some ⟨go17, 0, none⟩) x10_5.length co17)) (ok := (fun _ => True)) (by (with_reducible repeat (first | apply Kd.R_alloc | apply Kd.R_drewN | apply Kd.R_drew)); exact Kd.R_mono HO_7.out (fun _ hk => ⟨trivial, hk⟩)) hg (.inl rfl)); have n1_ := Aside0.mk (Kd.R_over' (v := (.slice (some ⟨go17, 0, none⟩) x10_5.length co17)) (by (with_reducible repeat (first | apply Kd.R_alloc | apply Kd.R_drewN | apply Kd.R_drew)); exact HO_9.out) (Kd.R_typed HO_10.out) (by decide) hg); have n2_ := Aside0.mk (hp_); have n3_ := Aside0.mk ((by rw [hw]; exact below_set (HB.out) GB17.out : Below w.heap.size w w80)); clear HO_7; clear HO_9; clear HO_10; clear HB; have HO_7 := n0_; have HO_9 := n1_; have HO_10 := n2_; have HB := n3_; clear n0_ n1_ n2_ n3_; clear hg hw hp_)); try go_wp2_with (first | ((with_reducible refine gate_store (t := 3) (p := 152) rfl ?_); (try (rw [drewN_self wc]; generalize hq_ : World.drewN wc _ = wc; have n0_ := Aside0.mk (Kd.R_at hq_ HO_7.out); have n1_ := Aside0.mk (Kd.R_at hq_ HO_9.out); have n2_ := Aside0.mk (Kd.R_at hq_ HO_10.out); have n3_ := Aside0.mk (below_at hq_ HB.out); clear hq_ HO_7 HO_9 HO_10 HB; have HO_7 := n0_; have HO_9 := n1_; have HO_10 := n2_; have HB := n3_; clear n0_ n1_ n2_ n3_; (try (have HP77 := Kd.R_putg HO_9.out ((rd ((rd_T30 l0 x14_4).f2) x15_5) : Int) (wrap64 ((rd x9_5 x14_4) + (rd l1 (rd ((rd_T30 l0 x14_4).f2) x15_5)))))))); refine store_event (t := 3) (p := 152) (v := ?vo_w78) (w1 := (wc.setCell ⟨go15, ((rd ((rd_T30 l0 x14_4).f2) x15_5) : Int).toNat, none⟩ (.int .i64 (wrap64 ((rd x9_5 x14_4) + (rd l1 (rd ((rd_T30 l0 x14_4).f2) x15_5))))))) ?hg ?ho ?hn ?hr ?_; (case ho => rfl); (case hg => rfl); (case hn => rfl); (case hr => first | (go_simp; done) | (go_simp; rfl)); intro w78 hw; have hg : wc.grownBy w78 (some go15) := (by rw [hw]; exact HP77.2); have hp_ : Kd.R (Kd.int .i64) 3 w78 w.heap.size (fun _ => True) (.slice (some ⟨go15, 0, none⟩) x9_5.length co15) y481 := (by rw [hw, Ny481.out]; exact HP77.1); clear HP77; have n0_ := Aside0.mk (Kd.R_over' (v := (.slice (some ⟨go15, 0, none⟩) x9_5.length co15)) (by (with_reducible repeat (first | apply Kd.R_alloc | apply Kd.R_drewN | apply Kd.R_drew)); exact HO_7.out) (Kd.R_typed HO_9.out) (by decide) hg); have n1_ := Aside0.mk (hp_); have n2_ := Aside0.mk (Kd.R_over' (v := (.slice (some ⟨go15, 0, none⟩) x9_5.length co15)) (by (with_reducible repeat (first | apply Kd.R_alloc | apply Kd.R_drewN | apply Kd.R_drew)); exact HO_10.out) (Kd.R_typed HO_9.out) (by decide) hg); have n3_ := Aside0.mk ((by rw [hw]; exact below_set (HB.out) GB15.out : Below w.heap.size w w78)); clear HO_7; clear HO_9; clear HO_10; clear HB; have HO_7 := n0_; have HO_9 := n1_; have HO_10 := n2_; have HB := n3_; clear n0_ n1_ n2_ n3_; clear hg hw hp_; have p71 : 0 ≤ ((rd ((rd_T30 l0 x14_4).f2) x15_5) : Int) := of_decide_eq_true (by first | (with_reducible assumption) | assumption); have q71 : ((rd ((rd_T30 l0 x14_4).f2) x15_5) : Int) < ((x10_5.length : Int) : Int) := of_decide_eq_true (by first | (with_reducible assumption) | assumption); obtain ⟨hx71_0, hf71_0⟩ := Kd.R_celln false HO_10.out ((rd ((rd_T30 l0 x14_4).f2) x15_5) : Int) p71 q71; replace p71 := eq_true p71; replace q71 := eq_true q71; obtain ⟨hy79_, hz79_⟩ := Kd.R_celln false HO_10.out ((rd ((rd_T30 l0 x14_4).f2) x15_5) : Int) (of_decide_eq_true (by first | (with_reducible assumption) | assumption)) (of_decide_eq_true (by first | (with_reducible assumption) | assumption)); have HP79 := Kd.R_putg HO_10.out ((rd ((rd_T30 l0 x14_4).f2) x15_5) : Int) true) | ((with_reducible refine gate_store (t := 4) (p := 153) rfl ?_); (try (rw [drewN_self w78]; generalize hq_ : World.drewN w78 _ = w78; have n0_ := Aside0.mk (Kd.R_at hq_ HO_7.out); have n1_ := Aside0.mk (Kd.R_at hq_ HO_9.out); have n2_ := Aside0.mk (Kd.R_at hq_ HO_10.out); have n3_ := Aside0.mk (below_at hq_ HB.out); clear hq_ HO_7 HO_9 HO_10 HB; have HO_7 := n0_; have HO_9 := n1_; have HO_10 := n2_; have HB := n3_; clear n0_ n1_ n2_ n3_; (try (obtain ⟨hy79_, hz79_⟩ := Kd.R_celln false HO_10.out ((rd ((rd_T30 l0 x14_4).f2) x15_5) : Int) (of_decide_eq_true (by first | (with_reducible assumption) | assumption)) (of_decide_eq_true (by first | (with_reducible assumption) | assumption)))); (try (have HP79 := Kd.R_putg HO_10.out ((rd ((rd_T30 l0 x14_4).f2) x15_5) : Int) true)))); refine store_event (t := 4) (p := 153) (v := ?vo_w80) (w1 := (w78.setCell ⟨go17, ((rd ((rd_T30 l0 x14_4).f2) x15_5) : Int).toNat, none⟩ (.bool true))) ?hg ?ho ?hn ?hr ?_; (case ho => rfl); (case hg => rfl); (case hn => rfl); (case hr => first | (go_simp; done) | (go_simp; rfl)); intro w80 hw; have hg : w78.grownBy w80 (some go17) := (by rw [hw]; exact HP79.2); have hp_ : Kd.R Kd.bool 4 w80 w.heap.size (fun k_ => some k_ ≠ (v453 : Value).ownBlock) (.slice (some ⟨go17, 0, none⟩) x10_5.length co17) y482 := (by rw [hw, Ny482.out]; exact HP79.1); clear HP79; have n0_ := Aside0.mk (Kd.R_after (v := (.slice (some ⟨go17, 0, none⟩) x10_5.length co17)) (v1 := (.slice (some ⟨go17, 0, none⟩) x10_5.length co17)) (ok := (fun _ => True)) (by (with_reducible repeat (first | apply Kd.R_alloc | apply Kd.R_drewN | apply Kd.R_drew)); exact Kd.R_mono HO_7.out (fun _ hk => ⟨trivial, hk⟩)) hg (.inl rfl)); have n1_ := Aside0.mk (Kd.R_over' (v := (.slice (some ⟨go17, 0, none⟩) x10_5.length co17)) (by (with_reducible repeat (first | apply Kd.R_alloc | apply Kd.R_drewN | apply Kd.R_drew)); exact HO_9.out) (Kd.R_typed HO_10.out) (by decide) hg); have n2_ := Aside0.mk (hp_); have n3_ := Aside0.mk ((by rw [hw]; exact below_set (HB.out) GB17.out : Below w.heap.size w w80)); clear HO_7; clear HO_9; clear HO_10; clear HB; have HO_7 := n0_; have HO_9 := n1_; have HO_10 := n2_; have HB := n3_; clear n0_ n1_ n2_ n3_; clear hg hw hp_)))
                                            (try simp only [← hl9_5, ← hl10_5])
                                            go_roundg kj60
                                            case measure => have := HJ2.out; have := HK2.out; have := HK3.out; have := HK4.out; have := HK5.out; have := HJ38.out; have := HJ48.out; have := HJ60.out; omega
                                            case rel => exact ⟨(y481), (y482), (x11_5), (true), (wrap64 (x15_5 + 1)), (by first | rfl | (simp; done) | (simp [*]; done)), (by first | rfl | (simp; done) | (simp [*]; done)), (by first | rfl | (simp; done) | (simp [*]; done)), H', ⟨by have := HJ2.out; have := HK2.out; have := HK3.out; have := HK4.out; have := HK5.out; have := HJ38.out; have := HJ48.out; have := HJ60.out; omega⟩, ⟨by (try simp only [hl9_3]); (try simp only [hl10_3]); (try simp only [hl9_4]); (try simp only [hl10_4]); (try simp only [hl9_5]); (try simp only [hl10_5]); (with_reducible repeat (first | apply Kd.R_alloc | apply Kd.R_drewN | apply Kd.R_drew)); exact Kd.R_mono HO_7.out (fun _ hk => hk.2)⟩, ⟨by (try simp only [hl9_3]); (try simp only [hl10_3]); (try simp only [hl9_4]); (try simp only [hl10_4]); (try simp only [hl9_5]); (try simp only [hl10_5]); (with_reducible repeat (first | apply Kd.R_alloc | apply Kd.R_drewN | apply Kd.R_drew)); exact HO_9.out⟩, ⟨by (try simp only [hl9_3]); (try simp only [hl10_3]); (try simp only [hl9_4]); (try simp only [hl10_4]); (try simp only [hl9_5]); (try simp only [hl10_5]); (with_reducible repeat (first | apply Kd.R_alloc | apply Kd.R_drewN | apply Kd.R_drew)); exact HO_10.out⟩, ⟨by repeat (first | (with_reducible first | exact HB.out | apply below_alloc | apply pw_below_drewN | apply below_drew1) | exact HB.out)⟩⟩
                                          ·rw [if_neg c70] at H
                                           exact absurd H (by simp)
                                         ·rw [if_neg c68] at H
                                          exact absurd H (by simp)
                                        ·rw [if_neg c67] at H
                                         exact absurd H (by simp)
                                       ·replace c66 := Bool.eq_false_iff.mpr c66
                                        subst c66
                                        have H1 : (pianolaref10_Longest.l3 kj60 l0 l1 t451 x9_5 x10_5 x11_5 x12_3 x13_5 x14_4 (wrap64 (x15_5 + 1))) = some (r1, r2) := by rw [if_neg (show ¬ (false = true) by decide)] at H; exact H
                                        clear H
                                        have H := H1
                                        clear H1
                                        have H' := Aside0.mk H
                                        clear H
                                        go_wp2
                                        repeat (go_quiet (fail); try go_wp2)
                                        (try simp only [← hl9_5, ← hl10_5])
                                        go_roundg kj60
                                        case measure => have := HJ2.out; have := HK2.out; have := HK3.out; have := HK4.out; have := HK5.out; have := HJ38.out; have := HJ48.out; have := HJ60.out; omega
                                        case rel => exact ⟨(x9_5), (x10_5), (x11_5), (x13_5), (wrap64 (x15_5 + 1)), (by first | rfl | (simp; done) | (simp [*]; done)), (by first | rfl | (simp; done) | (simp [*]; done)), (by first | rfl | (simp; done) | (simp [*]; done)), H', ⟨by have := HJ2.out; have := HK2.out; have := HK3.out; have := HK4.out; have := HK5.out; have := HJ38.out; have := HJ48.out; have := HJ60.out; omega⟩, ⟨by (try simp only [hl9_3]); (try simp only [hl10_3]); (try simp only [hl9_4]); (try simp only [hl10_4]); (try simp only [hl9_5]); (try simp only [hl10_5]); (with_reducible repeat (first | apply Kd.R_alloc | apply Kd.R_drewN | apply Kd.R_drew)); exact HO_7.out⟩, ⟨by (try simp only [hl9_3]); (try simp only [hl10_3]); (try simp only [hl9_4]); (try simp only [hl10_4]); (try simp only [hl9_5]); (try simp only [hl10_5]); (with_reducible repeat (first | apply Kd.R_alloc | apply Kd.R_drewN | apply Kd.R_drew)); exact HO_9.out⟩, ⟨by (try simp only [hl9_3]); (try simp only [hl10_3]); (try simp only [hl9_4]); (try simp only [hl10_4]); (try simp only [hl9_5]); (try simp only [hl10_5]); (with_reducible repeat (first | apply Kd.R_alloc | apply Kd.R_drewN | apply Kd.R_drew)); exact HO_10.out⟩, ⟨by repeat (first | (with_reducible first | exact HB.out | apply below_alloc | apply pw_below_drewN | apply below_drew1) | exact HB.out)⟩⟩
                                   ·rw [if_neg c59] at H
                                    exact absurd H (by simp)
                                  ·rw [if_neg c58] at H
                                   exact absurd H (by simp)
                                 ·rw [if_neg c57] at H
                                  exact absurd H (by simp)
                                ·rw [if_neg c56] at H
                                 exact absurd H (by simp)
                            ·rw [if_neg c48] at H
                             exact absurd H (by simp)
                           ·rw [if_neg c47] at H
                            exact absurd H (by simp)
                          ·rw [if_neg c46] at H
                           exact absurd H (by simp)
                         ·rw [if_neg c45] at H
                          exact absurd H (by simp)
                        ·replace c44 := Bool.eq_false_iff.mpr c44
                         subst c44
                         have H1 : (pianolaref10_Longest.l2 kj38 l0 l1 t451 x9_5 x10_5 x11_5 x12_3 x13_5 (wrap64 (x14_4 + 1))) = some (r1, r2) := by rw [if_neg (show ¬ (false = true) by decide)] at H; exact H
                         clear H
                         have H := H1
                         clear H1
                         have H' := Aside0.mk H
                         clear H
                         go_wp2
                         repeat (go_quiet (fail); try go_wp2)
                         (try simp only [← hl9_4, ← hl10_4, ← hl9_5, ← hl10_5])
                         go_roundg kj38
                         case measure => have := HJ2.out; have := HK2.out; have := HK3.out; have := HK4.out; have := HK5.out; have := HJ38.out; omega
                         case rel => exact ⟨(x9_5), (x10_5), (x11_5), (x13_5), (wrap64 (x14_4 + 1)), (by first | rfl | (simp; done) | (simp [*]; done)), (by first | rfl | (simp; done) | (simp [*]; done)), (by first | rfl | (simp; done) | (simp [*]; done)), H', ⟨by have := HJ2.out; have := HK2.out; have := HK3.out; have := HK4.out; have := HK5.out; have := HJ38.out; omega⟩, ⟨by (try simp only [hl9_3]); (try simp only [hl10_3]); (try simp only [hl9_4]); (try simp only [hl10_4]); (try simp only [hl9_5]); (try simp only [hl10_5]); (with_reducible repeat (first | apply Kd.R_alloc | apply Kd.R_drewN | apply Kd.R_drew)); exact HO_7.out⟩, ⟨by (try simp only [hl9_3]); (try simp only [hl10_3]); (try simp only [hl9_4]); (try simp only [hl10_4]); (try simp only [hl9_5]); (try simp only [hl10_5]); (with_reducible repeat (first | apply Kd.R_alloc | apply Kd.R_drewN | apply Kd.R_drew)); exact HO_9.out⟩, ⟨by (try simp only [hl9_3]); (try simp only [hl10_3]); (try simp only [hl9_4]); (try simp only [hl10_4]); (try simp only [hl9_5]); (try simp only [hl10_5]); (with_reducible repeat (first | apply Kd.R_alloc | apply Kd.R_drewN | apply Kd.R_drew)); exact HO_10.out⟩, ⟨by repeat (first | (with_reducible first | exact HB.out | apply below_alloc | apply pw_below_drewN | apply below_drew1) | exact HB.out)⟩⟩
                   ·rw [if_neg c38] at H
                    have c38b0 : decide (x14_4 < (l0.length : Int)) = false := decide_eq_false c38
                    clear c38
                    by_cases c81 : x13_4 = true
                    ·subst c81
                     have H1 : (pianolaref10_Longest.l1 k4 l0 l1 t451 x9_4 x10_4 x11_4 (wrap64 (x12_3 + 1))) = some (r1, r2) := by rw [if_pos rfl] at H; exact H
                     clear H
                     have H := H1
                     clear H1
                     have H' := Aside0.mk H
                     clear H
                     go_wp2
                     repeat (go_quiet (fail); try go_wp2)
                     (try simp only [← hl9_3, ← hl10_3, ← hl9_4, ← hl10_4])
                     go_roundg k4
                     case measure => have := HJ2.out; have := HK2.out; have := HK3.out; have := HK4.out; omega
                     case rel => exact ⟨(x9_4), (x10_4), (x11_4), (wrap64 (x12_3 + 1)), (by first | rfl | (simp; done) | (simp [*]; done)), (by first | rfl | (simp; done) | (simp [*]; done)), H', ⟨by have := HJ2.out; have := HK2.out; have := HK3.out; have := HK4.out; omega⟩, ⟨by (try simp only [hl9_3]); (try simp only [hl10_3]); (try simp only [hl9_4]); (try simp only [hl10_4]); (with_reducible repeat (first | apply Kd.R_alloc | apply Kd.R_drewN | apply Kd.R_drew)); exact HO_7.out⟩, ⟨by (try simp only [hl9_3]); (try simp only [hl10_3]); (try simp only [hl9_4]); (try simp only [hl10_4]); (with_reducible repeat (first | apply Kd.R_alloc | apply Kd.R_drewN | apply Kd.R_drew)); exact HO_9.out⟩, ⟨by (try simp only [hl9_3]); (try simp only [hl10_3]); (try simp only [hl9_4]); (try simp only [hl10_4]); (with_reducible repeat (first | apply Kd.R_alloc | apply Kd.R_drewN | apply Kd.R_drew)); exact HO_10.out⟩, ⟨by repeat (first | (with_reducible first | exact HB.out | apply below_alloc | apply pw_below_drewN | apply below_drew1) | exact HB.out)⟩⟩
                    ·replace c81 := Bool.eq_false_iff.mpr c81
                     subst c81
                     have H1 : ((pianolaref10_back.f k4 l0).bind fun t469 => (if t469 = true then (some (0, false)) else (some (x11_4, true)))) = some (r1, r2) := by rw [if_neg (show ¬ (false = true) by decide)] at H; exact H
                     clear H
                     have H := H1
                     clear H1
                     replace H := Option.bind_eq_some_iff.mp H
                     obtain ⟨t469, A820, H⟩ := H
                     replace H : (if t469 = true then (some (0, false)) else (some (x11_4, true))) = some (r1, r2) := H
                     have A82 := Aside0.mk A820
                     clear A820
                     by_cases c83 : t469 = true
                     ·subst c83
                      have H1 : (some (0, false)) = some (r1, r2) := by rw [if_pos rfl] at H; exact H
                      clear H
                      have H := H1
                      clear H1
                      simp only [Option.some.injEq, Prod.mk.injEq] at H
                      obtain ⟨rfl, rfl⟩ := H
                      go_wp2_with (first | (go_at_call 48; (with_reducible refine (pianolaref10_back.calls k4 _ _ l0 true _ ?side1 ?side2 A82.out).mono ?_); (case side1 => repeat (first | exact (Kd.C_below HR0.out HB.out) | (with_reducible refine Kd.C_alloc ?_ _) | (with_reducible refine Kd.C_drewN ?_ _) | (with_reducible refine Kd.C_drew ?_))); (case side2 => exact HC0.out); rintro e w84 ⟨rfl, hb⟩; have n0_ := Aside0.mk (Kd.R_below (by (with_reducible repeat (first | apply Kd.R_alloc | apply Kd.R_drewN | apply Kd.R_drew)); exact HO_7.out) hb); have n1_ := Aside0.mk (Kd.R_below (by (with_reducible repeat (first | apply Kd.R_alloc | apply Kd.R_drewN | apply Kd.R_drew)); exact HO_9.out) hb); have n2_ := Aside0.mk (Kd.R_below (by (with_reducible repeat (first | apply Kd.R_alloc | apply Kd.R_drewN | apply Kd.R_drew)); exact HO_10.out) hb); have n3_ := Aside0.mk (below_step (by repeat (first | (with_reducible first | exact HB.out | apply below_alloc | apply pw_below_drewN | apply below_drew1) | exact HB.out)) hb); clear HO_7; clear HO_9; clear HO_10; clear HB; have HO_7 := n0_; have HO_9 := n1_; have HO_10 := n2_; have HB := n3_; clear n0_ n1_ n2_ n3_; (try clear hb); (try clear hb2); (try clear hk); (try clear hi)))
                      repeat (go_quiet (first | (go_at_call 48; (with_reducible refine (pianolaref10_back.calls k4 _ _ l0 true _ ?side1 ?side2 A82.out).mono ?_); (case side1 => repeat (first | exact (Kd.C_below HR0.out HB.out) | (with_reducible refine Kd.C_alloc ?_ _) | (with_reducible refine Kd.C_drewN ?_ _) | (with_reducible refine Kd.C_drew ?_))); (case side2 => exact HC0.out); rintro e w84 ⟨rfl, hb⟩; have n0_ := Aside0.mk (Kd.R_below (by (with_reducible repeat (first | apply Kd.R_alloc | apply Kd.R_drewN | apply Kd.R_drew)); exact HO_7.out) hb); have n1_ := Aside0.mk (Kd.R_below (by (with_reducible repeat (first | apply Kd.R_alloc | apply Kd.R_drewN | apply Kd.R_drew)); exact HO_9.out) hb); have n2_ := Aside0.mk (Kd.R_below (by (with_reducible repeat (first | apply Kd.R_alloc | apply Kd.R_drewN | apply Kd.R_drew)); exact HO_10.out) hb); have n3_ := Aside0.mk (below_step (by repeat (first | (with_reducible first | exact HB.out | apply below_alloc | apply pw_below_drewN | apply below_drew1) | exact HB.out)) hb); clear HO_7; clear HO_9; clear HO_10; clear HB; have HO_7 := n0_; have HO_9 := n1_; have HO_10 := n2_; have HB := n3_; clear n0_ n1_ n2_ n3_; (try clear hb); (try clear hb2); (try clear hk); (try clear hi))); try go_wp2_with (first | (go_at_call 48; (with_reducible refine (pianolaref10_back.calls k4 _ _ l0 true _ ?side1 ?side2 A82.out).mono ?_); (case side1 => repeat (first | exact (Kd.C_below HR0.out HB.out) | (with_reducible refine Kd.C_alloc ?_ _) | (with_reducible refine Kd.C_drewN ?_ _) | (with_reducible refine Kd.C_drew ?_))); (case side2 => exact HC0.out); rintro e w84 ⟨rfl, hb⟩; have n0_ := Aside0.mk (Kd.R_below (by (with_reducible repeat (first | apply Kd.R_alloc | apply Kd.R_drewN | apply Kd.R_drew)); exact HO_7.out) hb); have n1_ := Aside0.mk (Kd.R_below (by (with_reducible repeat (first | apply Kd.R_alloc | apply Kd.R_drewN | apply Kd.R_drew)); exact HO_9.out) hb); have n2_ := Aside0.mk (Kd.R_below (by (with_reducible repeat (first | apply Kd.R_alloc | apply Kd.R_drewN | apply Kd.R_drew)); exact HO_10.out) hb); have n3_ := Aside0.mk (below_step (by repeat (first | (with_reducible first | exact HB.out | apply below_alloc | apply pw_below_drewN | apply below_drew1) | exact HB.out)) hb); clear HO_7; clear HO_9; clear HO_10; clear HB; have HO_7 := n0_; have HO_9 := n1_; have HO_10 := n2_; have HB := n3_; clear n0_ n1_ n2_ n3_; (try clear hb); (try clear hb2); (try clear hk); (try clear hi))))
                      go_ret2
                      exact ⟨by first | rfl | (simp [errW_none, errW_some] <;> rfl) | (simp [*, errW_none, errW_some] <;> rfl), by repeat (first | (with_reducible first | exact HB.out | apply below_alloc | apply pw_below_drewN | apply below_drew1) | exact HB.out)⟩
                     ·replace c83 := Bool.eq_false_iff.mpr c83
                      subst c83
                      have H1 : (some (x11_4, true)) = some (r1, r2) := by rw [if_neg (show ¬ (false = true) by decide)] at H; exact H
                      clear H
                      have H := H1
                      clear H1
                      simp only [Option.some.injEq, Prod.mk.injEq] at H
                      obtain ⟨rfl, rfl⟩ := H
                      go_wp2_with (first | (go_at_call 48; (with_reducible refine (pianolaref10_back.calls k4 _ _ l0 false _ ?side1 ?side2 A82.out).mono ?_); (case side1 => repeat (first | exact (Kd.C_below HR0.out HB.out) | (with_reducible refine Kd.C_alloc ?_ _) | (with_reducible refine Kd.C_drewN ?_ _) | (with_reducible refine Kd.C_drew ?_))); (case side2 => exact HC0.out); rintro e w85 ⟨rfl, hb⟩; have n0_ := Aside0.mk (Kd.R_below (by (with_reducible repeat (first | apply Kd.R_alloc | apply Kd.R_drewN | apply Kd.R_drew)); exact HO_7.out) hb); have n1_ := Aside0.mk (Kd.R_below (by (with_reducible repeat (first | apply Kd.R_alloc | apply Kd.R_drewN | apply Kd.R_drew)); exact HO_9.out) hb); have n2_ := Aside0.mk (Kd.R_below (by (with_reducible repeat (first | apply Kd.R_alloc | apply Kd.R_drewN | apply Kd.R_drew)); exact HO_10.out) hb); have n3_ := Aside0.mk (below_step (by repeat (first | (with_reducible first | exact HB.out | apply below_alloc | apply pw_below_drewN | apply below_drew1) | exact HB.out)) hb); clear HO_7; clear HO_9; clear HO_10; clear HB; have HO_7 := n0_; have HO_9 := n1_; have HO_10 := n2_; have HB := n3_; clear n0_ n1_ n2_ n3_; (try clear hb); (try clear hb2); (try clear hk); (try clear hi)))
                      repeat (go_quiet (first | (go_at_call 48; (with_reducible refine (pianolaref10_back.calls k4 _ _ l0 false _ ?side1 ?side2 A82.out).mono ?_); (case side1 => repeat (first | exact (Kd.C_below HR0.out HB.out) | (with_reducible refine Kd.C_alloc ?_ _) | (with_reducible refine Kd.C_drewN ?_ _) | (with_reducible refine Kd.C_drew ?_))); (case side2 => exact HC0.out); rintro e w85 ⟨rfl, hb⟩; have n0_ := Aside0.mk (Kd.R_below (by (with_reducible repeat (first | apply Kd.R_alloc | apply Kd.R_drewN | apply Kd.R_drew)); exact HO_7.out) hb); have n1_ := Aside0.mk (Kd.R_below (by (with_reducible repeat (first | apply Kd.R_alloc | apply Kd.R_drewN | apply Kd.R_drew)); exact HO_9.out) hb); have n2_ := Aside0.mk (Kd.R_below (by (with_reducible repeat (first | apply Kd.R_alloc | apply Kd.R_drewN | apply Kd.R_drew)); exact HO_10.out) hb); have n3_ := Aside0.mk (below_step (by repeat (first | (with_reducible first | exact HB.out | apply below_alloc | apply pw_below_drewN | apply below_drew1) | exact HB.out)) hb); clear HO_7; clear HO_9; clear HO_10; clear HB; have HO_7 := n0_; have HO_9 := n1_; have HO_10 := n2_; have HB := n3_; clear n0_ n1_ n2_ n3_; (try clear hb); (try clear hb2); (try clear hk); (try clear hi))); try go_wp2_with (first | (go_at_call 48; (with_reducible refine (pianolaref10_back.calls k4 _ _ l0 false _ ?side1 ?side2 A82.out).mono ?_); (case side1 => repeat (first | exact (Kd.C_below HR0.out HB.out) | (with_reducible refine Kd.C_alloc ?_ _) | (with_reducible refine Kd.C_drewN ?_ _) | (with_reducible refine Kd.C_drew ?_))); (case side2 => exact HC0.out); rintro e w85 ⟨rfl, hb⟩; have n0_ := Aside0.mk (Kd.R_below (by (with_reducible repeat (first | apply Kd.R_alloc | apply Kd.R_drewN | apply Kd.R_drew)); exact HO_7.out) hb); have n1_ := Aside0.mk (Kd.R_below (by (with_reducible repeat (first | apply Kd.R_alloc | apply Kd.R_drewN | apply Kd.R_drew)); exact HO_9.out) hb); have n2_ := Aside0.mk (Kd.R_below (by (with_reducible repeat (first | apply Kd.R_alloc | apply Kd.R_drewN | apply Kd.R_drew)); exact HO_10.out) hb); have n3_ := Aside0.mk (below_step (by repeat (first | (with_reducible first | exact HB.out | apply below_alloc | apply pw_below_drewN | apply below_drew1) | exact HB.out)) hb); clear HO_7; clear HO_9; clear HO_10; clear HB; have HO_7 := n0_; have HO_9 := n1_; have HO_10 := n2_; have HB := n3_; clear n0_ n1_ n2_ n3_; (try clear hb); (try clear hb2); (try clear hk); (try clear hi))))
                      go_ret2
                      exact ⟨by first | rfl | (simp [errW_none, errW_some] <;> rfl) | (simp [*, errW_none, errW_some] <;> rfl), by repeat (first | (with_reducible first | exact HB.out | apply below_alloc | apply pw_below_drewN | apply below_drew1) | exact HB.out)⟩
                ·rw [if_neg c37] at H
                 have c37b0 : decide (x12_3 ≤ (l0.length : Int)) = false := decide_eq_false c37
                 clear c37
                 replace H := Option.bind_eq_some_iff.mp H
                 obtain ⟨t468, A860, H⟩ := H
                 replace H : (if t468 = true then (some (0, false)) else (some (x11_3, true))) = some (r1, r2) := H
                 have A86 := Aside0.mk A860
                 clear A860
                 by_cases c87 : t468 = true
                 ·subst c87
                  have H1 : (some (0, false)) = some (r1, r2) := by rw [if_pos rfl] at H; exact H
                  clear H
                  have H := H1
                  clear H1
                  simp only [Option.some.injEq, Prod.mk.injEq] at H
                  obtain ⟨rfl, rfl⟩ := H
                  go_wp2_with (first | (go_at_call 48; (with_reducible refine (pianolaref10_back.calls k3 _ _ l0 true _ ?side1 ?side2 A86.out).mono ?_); (case side1 => repeat (first | exact (Kd.C_below HR0.out HB.out) | (with_reducible refine Kd.C_alloc ?_ _) | (with_reducible refine Kd.C_drewN ?_ _) | (with_reducible refine Kd.C_drew ?_))); (case side2 => exact HC0.out); rintro e w88 ⟨rfl, hb⟩; have n0_ := Aside0.mk (Kd.R_below (by (with_reducible repeat (first | apply Kd.R_alloc | apply Kd.R_drewN | apply Kd.R_drew)); exact HO_7.out) hb); have n1_ := Aside0.mk (Kd.R_below (by (with_reducible repeat (first | apply Kd.R_alloc | apply Kd.R_drewN | apply Kd.R_drew)); exact HO_9.out) hb); have n2_ := Aside0.mk (Kd.R_below (by (with_reducible repeat (first | apply Kd.R_alloc | apply Kd.R_drewN | apply Kd.R_drew)); exact HO_10.out) hb); have n3_ := Aside0.mk (below_step (by repeat (first | (with_reducible first | exact HB.out | apply below_alloc | apply pw_below_drewN | apply below_drew1) | exact HB.out)) hb); clear HO_7; clear HO_9; clear HO_10; clear HB; have HO_7 := n0_; have HO_9 := n1_; have HO_10 := n2_; have HB := n3_; clear n0_ n1_ n2_ n3_; (try clear hb); (try clear hb2); (try clear hk); (try clear hi)))
                  repeat (go_quiet (first | (go_at_call 48; (with_reducible refine (pianolaref10_back.calls k3 _ _ l0 true _ ?side1 ?side2 A86.out).mono ?_); (case side1 => repeat (first | exact (Kd.C_below HR0.out HB.out) | (with_reducible refine Kd.C_alloc ?_ _) | (with_reducible refine Kd.C_drewN ?_ _) | (with_reducible refine Kd.C_drew ?_))); (case side2 => exact HC0.out); rintro e w88 ⟨rfl, hb⟩; have n0_ := Aside0.mk (Kd.R_below (by (with_reducible repeat (first | apply Kd.R_alloc | apply Kd.R_drewN | apply Kd.R_drew)); exact HO_7.out) hb); have n1_ := Aside0.mk (Kd.R_below (by (with_reducible repeat (first | apply Kd.R_alloc | apply Kd.R_drewN | apply Kd.R_drew)); exact HO_9.out) hb); have n2_ := Aside0.mk (Kd.R_below (by (with_reducible repeat (first | apply Kd.R_alloc | apply Kd.R_drewN | apply Kd.R_drew)); exact HO_10.out) hb); have n3_ := Aside0.mk (below_step (by repeat (first | (with_reducible first | exact HB.out | apply below_alloc | apply pw_below_drewN | apply below_drew1) | exact HB.out)) hb); clear HO_7; clear HO_9; clear HO_10; clear HB; have HO_7 := n0_; have HO_9 := n1_; have HO_10 := n2_; have HB := n3_; clear n0_ n1_ n2_ n3_; (try clear hb); (try clear hb2); (try clear hk); (try clear hi))); try go_wp2_with (first | (go_at_call 48; (with_reducible refine (pianolaref10_back.calls k3 _ _ l0 true _ ?side1 ?side2 A86.out).mono ?_); (case side1 => repeat (first | exact (Kd.C_below HR0.out HB.out) | (with_reducible refine Kd.C_alloc ?_ _) | (with_reducible refine Kd.C_drewN ?_ _) | (with_reducible refine Kd.C_drew ?_))); (case side2 => exact HC0.out); rintro e w88 ⟨rfl, hb⟩; have n0_ := Aside0.mk (Kd.R_below (by (with_reducible repeat (first | apply Kd.R_alloc | apply Kd.R_drewN | apply Kd.R_drew)); exact HO_7.out) hb); have n1_ := Aside0.mk (Kd.R_below (by (with_reducible repeat (first | apply Kd.R_alloc | apply Kd.R_drewN | apply Kd.R_drew)); exact HO_9.out) hb); have n2_ := Aside0.mk (Kd.R_below (by (with_reducible repeat (first | apply Kd.R_alloc | apply Kd.R_drewN | apply Kd.R_drew)); exact HO_10.out) hb); have n3_ := Aside0.mk (below_step (by repeat (first | (with_reducible first | exact HB.out | apply below_alloc | apply pw_below_drewN | apply below_drew1) | exact HB.out)) hb); clear HO_7; clear HO_9; clear HO_10; clear HB; have HO_7 := n0_; have HO_9 := n1_; have HO_10 := n2_; have HB := n3_; clear n0_ n1_ n2_ n3_; (try clear hb); (try clear hb2); (try clear hk); (try clear hi))))
                  go_ret2
                  exact ⟨by first | rfl | (simp [errW_none, errW_some] <;> rfl) | (simp [*, errW_none, errW_some] <;> rfl), by repeat (first | (with_reducible first | exact HB.out | apply below_alloc | apply pw_below_drewN | apply below_drew1) | exact HB.out)⟩
                 ·replace c87 := Bool.eq_false_iff.mpr c87
                  subst c87
                  have H1 : (some (x11_3, true)) = some (r1, r2) := by rw [if_neg (show ¬ (false = true) by decide)] at H; exact H
                  clear H
                  have H := H1
                  clear H1
                  simp only [Option.some.injEq, Prod.mk.injEq] at H
                  obtain ⟨rfl, rfl⟩ := H
                  go_wp2_with (first | (go_at_call 48; (with_reducible refine (pianolaref10_back.calls k3 _ _ l0 false _ ?side1 ?side2 A86.out).mono ?_); (case side1 => repeat (first | exact (Kd.C_below HR0.out HB.out) | (with_reducible refine Kd.C_alloc ?_ _) | (with_reducible refine Kd.C_drewN ?_ _) | (with_reducible refine Kd.C_drew ?_))); (case side2 => exact HC0.out); rintro e w89 ⟨rfl, hb⟩; have n0_ := Aside0.mk (Kd.R_below (by (with_reducible repeat (first | apply Kd.R_alloc | apply Kd.R_drewN | apply Kd.R_drew)); exact HO_7.out) hb); have n1_ := Aside0.mk (Kd.R_below (by (with_reducible repeat (first | apply Kd.R_alloc | apply Kd.R_drewN | apply Kd.R_drew)); exact HO_9.out) hb); have n2_ := Aside0.mk (Kd.R_below (by (with_reducible repeat (first | apply Kd.R_alloc | apply Kd.R_drewN | apply Kd.R_drew)); exact HO_10.out) hb); have n3_ := Aside0.mk (below_step (by repeat (first | (with_reducible first | exact HB.out | apply below_alloc | apply pw_below_drewN | apply below_drew1) | exact HB.out)) hb); clear HO_7; clear HO_9; clear HO_10; clear HB; have HO_7 := n0_; have HO_9 := n1_; have HO_10 := n2_; have HB := n3_; clear n0_ n1_ n2_ n3_; (try clear hb); (try clear hb2); (try clear hk); (try clear hi)))
                  repeat (go_quiet (first | (go_at_call 48; (with_reducible refine (pianolaref10_back.calls k3 _ _ l0 false _ ?side1 ?side2 A86.out).mono ?_); (case side1 => repeat (first | exact (Kd.C_below HR0.out HB.out) | (with_reducible refine Kd.C_alloc ?_ _) | (with_reducible refine Kd.C_drewN ?_ _) | (with_reducible refine Kd.C_drew ?_))); (case side2 => exact HC0.out); rintro e w89 ⟨rfl, hb⟩; have n0_ := Aside0.mk (Kd.R_below (by (with_reducible repeat (first | apply Kd.R_alloc | apply Kd.R_drewN | apply Kd.R_drew)); exact HO_7.out) hb); have n1_ := Aside0.mk (Kd.R_below (by (with_reducible repeat (first | apply Kd.R_alloc | apply Kd.R_drewN | apply Kd.R_drew)); exact HO_9.out) hb); have n2_ := Aside0.mk (Kd.R_below (by (with_reducible repeat (first | apply Kd.R_alloc | apply Kd.R_drewN | apply Kd.R_drew)); exact HO_10.out) hb); have n3_ := Aside0.mk (below_step (by repeat (first | (with_reducible first | exact HB.out | apply below_alloc | apply pw_below_drewN | apply below_drew1) | exact HB.out)) hb); clear HO_7; clear HO_9; clear HO_10; clear HB; have HO_7 := n0_; have HO_9 := n1_; have HO_10 := n2_; have HB := n3_; clear n0_ n1_ n2_ n3_; (try clear hb); (try clear hb2); (try clear hk); (try clear hi))); try go_wp2_with (first | (go_at_call 48; (with_reducible refine (pianolaref10_back.calls k3 _ _ l0 false _ ?side1 ?side2 A86.out).mono ?_); (case side1 => repeat (first | exact (Kd.C_below HR0.out HB.out) | (with_reducible refine Kd.C_alloc ?_ _) | (with_reducible refine Kd.C_drewN ?_ _) | (with_reducible refine Kd.C_drew ?_))); (case side2 => exact HC0.out); rintro e w89 ⟨rfl, hb⟩; have n0_ := Aside0.mk (Kd.R_below (by (with_reducible repeat (first | apply Kd.R_alloc | apply Kd.R_drewN | apply Kd.R_drew)); exact HO_7.out) hb); have n1_ := Aside0.mk (Kd.R_below (by (with_reducible repeat (first | apply Kd.R_alloc | apply Kd.R_drewN | apply Kd.R_drew)); exact HO_9.out) hb); have n2_ := Aside0.mk (Kd.R_below (by (with_reducible repeat (first | apply Kd.R_alloc | apply Kd.R_drewN | apply Kd.R_drew)); exact HO_10.out) hb); have n3_ := Aside0.mk (below_step (by repeat (first | (with_reducible first | exact HB.out | apply below_alloc | apply pw_below_drewN | apply below_drew1) | exact HB.out)) hb); clear HO_7; clear HO_9; clear HO_10; clear HB; have HO_7 := n0_; have HO_9 := n1_; have HO_10 := n2_; have HB := n3_; clear n0_ n1_ n2_ n3_; (try clear hb); (try clear hb2); (try clear hk); (try clear hi))))
                  go_ret2
                  exact ⟨by first | rfl | (simp [errW_none, errW_some] <;> rfl) | (simp [*, errW_none, errW_some] <;> rfl), by repeat (first | (with_reducible first | exact HB.out | apply below_alloc | apply pw_below_drewN | apply below_drew1) | exact HB.out)⟩
            ·rw [if_neg c16] at H
             exact absurd H (by simp)
           ·rw [if_neg c14] at H
            exact absurd H (by simp)
          ·rw [if_neg c13] at H
           exact absurd H (by simp)
         ·rw [if_neg c12] at H
          exact absurd H (by simp)
        ·rw [if_neg c11] at H
         exact absurd H (by simp)
       ·rw [if_neg c10] at H
        exact absurd H (by simp)

end Go.Proofs.Ytpfbfnbffglbkaa.P
