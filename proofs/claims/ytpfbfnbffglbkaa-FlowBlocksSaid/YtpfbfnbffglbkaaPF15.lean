/- Ytpfbfnbffglbkaa: what Go functions come to, and that they do: walks, printed by a program of this session or typed by hand; no statement of the seat stands here. -/
import Derived.Test.YtpfbfnbffglbkaaP0
import Derived.Test.YtpfbfnbffglbkaaPF18
import Derived.Test.YtpfbfnbffglbkaaPF38
namespace Go.Proofs.Ytpfbfnbffglbkaa.P
open Go.RowKit Go.Proofs.YtpfbfnbffglbkaaW.PrintWords Go.Proofs.YtpfbfnbffglbkaaW.PrintLast Go.Proofs.YtpfbfnbffglbkaaW.PrintMore
attribute [local go_sem] max2_int min2_int max_two min_two max_three min_three max_four min_four   -- for this text's walks alone
set_option linter.unusedVariables false
set_option linter.unusedSimpArgs false

/-! ### pianolaref08_Blocks: function 15 -/
mutual
def pianolaref08_Blocks.j0 : Nat → List (S34) → List Int → Bool → Option ((List (S30)) × Int × Int)
  | 0, _, _, _ => none
  | k + 1, x0, x1, x27 => if x27 = true then (some (([] : List (S30)), 1, 0)) else (pianolaref08_Blocks.l0 k x0 x1 1)
def pianolaref08_Blocks.l0 : Nat → List (S34) → List Int → Int → Option ((List (S30)) × Int × Int)
  | 0, _, _, _ => none
  | k + 1, x0, x1, x7 => if x7 < (x1.length : Int) then (if 0 ≤ x7 then (if 0 ≤ (wrap64 (x7 - 1)) then (if (wrap64 (x7 - 1)) < (x1.length : Int) then (if (rd x1 x7) ≤ (rd x1 (wrap64 (x7 - 1))) then (some (([] : List (S30)), 1, 0)) else (pianolaref08_Blocks.l0 k x0 x1 (wrap64 (x7 + 1)))) else (none)) else (none)) else (none)) else (if 0 ≤ (wrap64 ((x0.length : Int) + 1)) then (if (wrap64 ((x0.length : Int) + 1) : Int).toNat ≤ 281474976710656 then ((some (List.replicate (wrap64 ((x0.length : Int) + 1) : Int).toNat false : List Bool)).bind fun y188 => (if 0 < (y188.length : Int) then (pianolaref08_Blocks.l1 k x0 x1 (y188.set (0 : Int).toNat true) 0) else (none))) else (none)) else (none))
def pianolaref08_Blocks.l1 : Nat → List (S34) → List Int → List Bool → Int → Option ((List (S30)) × Int × Int)
  | 0, _, _, _, _ => none
  | k + 1, x0, x1, x8, x9 => if x9 < (x0.length : Int) then (if 0 ≤ x9 then (if ((rd_T34 x0 x9).f0) = 29 then (pianolaref08_Blocks.j3 k x0 x1 x8 x9 true) else (pianolaref08_Blocks.j3 k x0 x1 x8 x9 (((rd_T34 x0 x9).f0) == 30))) else (none)) else (if 0 ≤ (wrap64 ((x0.length : Int) - 1)) then (if (wrap64 ((x0.length : Int) - 1)) < (x0.length : Int) then (if ((rd_T34 x0 (wrap64 ((x0.length : Int) - 1))).f0) = 29 then (pianolaref08_Blocks.j5 k x0 x1 x8 false) else (if ((rd_T34 x0 (wrap64 ((x0.length : Int) - 1))).f0) = 32 then (pianolaref08_Blocks.j5 k x0 x1 x8 false) else (pianolaref08_Blocks.j5 k x0 x1 x8 (((rd_T34 x0 (wrap64 ((x0.length : Int) - 1))).f0) != 38)))) else (none)) else (none))
def pianolaref08_Blocks.j3 : Nat → List (S34) → List Int → List Bool → Int → Bool → Option ((List (S30)) × Int × Int)
  | 0, _, _, _, _, _ => none
  | k + 1, x0, x1, x8, x9, x69 => if x69 = true then (if 0 ≤ x9 then (if x9 < (x0.length : Int) then ((pianolaref08_find.f k x1 ((rd_T34 x0 x9).f1)).bind fun t195 => (if t195 < 0 then (some (([] : List (S30)), 80, x9)) else (if 0 ≤ t195 then (if t195 < (x8.length : Int) then (pianolaref08_Blocks.j4 k x0 x1 (x8.set (t195 : Int).toNat true) x9) else (none)) else (none)))) else (none)) else (none)) else (pianolaref08_Blocks.j4 k x0 x1 x8 x9)
def pianolaref08_Blocks.j4 : Nat → List (S34) → List Int → List Bool → Int → Option ((List (S30)) × Int × Int)
  | 0, _, _, _, _ => none
  | k + 1, x0, x1, x8, x9 => if 0 ≤ x9 then (if x9 < (x0.length : Int) then ((pianolaref08_Ends.f ((rd_T34 x0 x9).f0)).bind fun t198 => (if t198 = true then (if 0 ≤ (wrap64 (x9 + 1)) then (if (wrap64 (x9 + 1)) < (x8.length : Int) then (pianolaref08_Blocks.l1 k x0 x1 (x8.set ((wrap64 (x9 + 1)) : Int).toNat true) (wrap64 (x9 + 1))) else (none)) else (none)) else (pianolaref08_Blocks.l1 k x0 x1 x8 (wrap64 (x9 + 1))))) else (none)) else (none)
def pianolaref08_Blocks.j5 : Nat → List (S34) → List Int → List Bool → Bool → Option ((List (S30)) × Int × Int)
  | 0, _, _, _, _ => none
  | k + 1, x0, x1, x8, x109 => if x109 = true then (some (([] : List (S30)), 80, wrap64 ((x0.length : Int) - 1))) else (pianolaref08_Blocks.l2 k x0 x1 x8 ([] : List Int) 0)
def pianolaref08_Blocks.l2 : Nat → List (S34) → List Int → List Bool → List Int → Int → Option ((List (S30)) × Int × Int)
  | 0, _, _, _, _, _ => none
  | k + 1, x0, x1, x8, x12, x13 => if x13 < (x0.length : Int) then (if 0 ≤ x13 then (if x13 < (x8.length : Int) then (if rdOf false x8 x13 = true then (if x12.length < 17592186044416 then (pianolaref08_Blocks.l2 k x0 x1 x8 (x12 ++ [x13]) (wrap64 (x13 + 1))) else (none)) else (pianolaref08_Blocks.l2 k x0 x1 x8 x12 (wrap64 (x13 + 1)))) else (none)) else (none)) else (pianolaref08_Blocks.l3 k x0 x1 x12 ([] : List (S30)) 0)
def pianolaref08_Blocks.l3 : Nat → List (S34) → List Int → List Int → List (S30) → Int → Option ((List (S30)) × Int × Int)
  | 0, _, _, _, _, _ => none
  | k + 1, x0, x1, x12, x14, x15 => if x15 < (x12.length : Int) then (if 0 ≤ x15 then (if (wrap64 (x15 + 1)) < (x12.length : Int) then (if 0 ≤ (wrap64 (x15 + 1)) then (pianolaref08_Blocks.j8 k x0 x1 x12 x14 x15 (rd x12 x15) (rd x12 (wrap64 (x15 + 1)))) else (none)) else (pianolaref08_Blocks.j8 k x0 x1 x12 x14 x15 (rd x12 x15) (x0.length : Int))) else (none)) else (some (x14, 0, (x14.length : Int)))
def pianolaref08_Blocks.j8 : Nat → List (S34) → List Int → List Int → List (S30) → Int → Int → Int → Option ((List (S30)) × Int × Int)
  | 0, _, _, _, _, _, _, _ => none
  | k + 1, x0, x1, x12, x14, x15, x207000, x207001 => if 0 ≤ (wrap64 (x207001 - 1)) then (if (wrap64 (x207001 - 1)) < (x0.length : Int) then (if ((rd_T34 x0 (wrap64 (x207001 - 1))).f0) = 29 then (pianolaref08_Blocks.j9 k x0 x1 x12 x14 x15 false x207000 x207001 ((rd_T34 x0 (wrap64 (x207001 - 1))).f0) ((rd_T34 x0 (wrap64 (x207001 - 1))).f1)) else (if ((rd_T34 x0 (wrap64 (x207001 - 1))).f0) = 32 then (pianolaref08_Blocks.j9 k x0 x1 x12 x14 x15 false x207000 x207001 ((rd_T34 x0 (wrap64 (x207001 - 1))).f0) ((rd_T34 x0 (wrap64 (x207001 - 1))).f1)) else (pianolaref08_Blocks.j9 k x0 x1 x12 x14 x15 (((rd_T34 x0 (wrap64 (x207001 - 1))).f0) != 38) x207000 x207001 ((rd_T34 x0 (wrap64 (x207001 - 1))).f0) ((rd_T34 x0 (wrap64 (x207001 - 1))).f1)))) else (none)) else (none)
def pianolaref08_Blocks.j9 : Nat → List (S34) → List Int → List Int → List (S30) → Int → Bool → Int → Int → Int → Int → Option ((List (S30)) × Int × Int)
  | 0, _, _, _, _, _, _, _, _, _, _ => none
  | k + 1, x0, x1, x12, x14, x15, x169, x207000, x207001, x210000, x210001 => if x169 = true then (if ([] : List Int).length < 17592186044416 then (pianolaref08_Blocks.j10 k x0 x1 x12 x14 x15 x207000 x207001 (([] : List Int) ++ [wrap64 (x15 + 1)]) x210000 x210001) else (none)) else (pianolaref08_Blocks.j10 k x0 x1 x12 x14 x15 x207000 x207001 ([] : List Int) x210000 x210001)
def pianolaref08_Blocks.j10 : Nat → List (S34) → List Int → List Int → List (S30) → Int → Int → Int → List Int → Int → Int → Option ((List (S30)) × Int × Int)
  | 0, _, _, _, _, _, _, _, _, _, _ => none
  | k + 1, x0, x1, x12, x14, x15, x207000, x207001, x207002, x210000, x210001 => if x210000 = 29 then (pianolaref08_Blocks.j11 k x0 x1 x12 x14 x15 true x207000 x207001 x207002 x210000 x210001) else (pianolaref08_Blocks.j11 k x0 x1 x12 x14 x15 (x210000 == 30) x207000 x207001 x207002 x210000 x210001)
def pianolaref08_Blocks.j11 : Nat → List (S34) → List Int → List Int → List (S30) → Int → Bool → Int → Int → List Int → Int → Int → Option ((List (S30)) × Int × Int)
  | 0, _, _, _, _, _, _, _, _, _, _, _ => none
  | k + 1, x0, x1, x12, x14, x15, x184, x207000, x207001, x207002, x210000, x210001 => if x184 = true then ((pianolaref08_find.f k x1 x210001).bind fun t213 => ((pianolaref08_find.f k x12 t213).bind fun t214 => (if x207002.length < 17592186044416 then (if x14.length < 3518437208883 then (pianolaref08_Blocks.l3 k x0 x1 x12 (x14 ++ [(⟨x207000, x207001, (x207002 ++ [t214])⟩ : S30)]) (wrap64 (x15 + 1))) else (none)) else (none)))) else (if x14.length < 3518437208883 then (pianolaref08_Blocks.l3 k x0 x1 x12 (x14 ++ [(⟨x207000, x207001, x207002⟩ : S30)]) (wrap64 (x15 + 1))) else (none))
end
def pianolaref08_Blocks.f (k : Nat) (l0 : List (S34)) (l1 : List Int) : Option ((List (S30)) × Int × Int) := if (l0.length : Int) = (l1.length : Int) then (pianolaref08_Blocks.j0 k l0 l1 ((l0.length : Int) == 0)) else (pianolaref08_Blocks.j0 k l0 l1 true)
theorem pianolaref08_Blocks.mono_l : ∀ k, (∀ y0 y1 y2, LeO (pianolaref08_Blocks.j0 k y0 y1 y2) (pianolaref08_Blocks.j0 (k + 1) y0 y1 y2)) ∧ (∀ y0 y1 y2, LeO (pianolaref08_Blocks.l0 k y0 y1 y2) (pianolaref08_Blocks.l0 (k + 1) y0 y1 y2)) ∧ (∀ y0 y1 y2 y3, LeO (pianolaref08_Blocks.l1 k y0 y1 y2 y3) (pianolaref08_Blocks.l1 (k + 1) y0 y1 y2 y3)) ∧ (∀ y0 y1 y2 y3 y4, LeO (pianolaref08_Blocks.j3 k y0 y1 y2 y3 y4) (pianolaref08_Blocks.j3 (k + 1) y0 y1 y2 y3 y4)) ∧ (∀ y0 y1 y2 y3, LeO (pianolaref08_Blocks.j4 k y0 y1 y2 y3) (pianolaref08_Blocks.j4 (k + 1) y0 y1 y2 y3)) ∧ (∀ y0 y1 y2 y3, LeO (pianolaref08_Blocks.j5 k y0 y1 y2 y3) (pianolaref08_Blocks.j5 (k + 1) y0 y1 y2 y3)) ∧ (∀ y0 y1 y2 y3 y4, LeO (pianolaref08_Blocks.l2 k y0 y1 y2 y3 y4) (pianolaref08_Blocks.l2 (k + 1) y0 y1 y2 y3 y4)) ∧ (∀ y0 y1 y2 y3 y4, LeO (pianolaref08_Blocks.l3 k y0 y1 y2 y3 y4) (pianolaref08_Blocks.l3 (k + 1) y0 y1 y2 y3 y4)) ∧ (∀ y0 y1 y2 y3 y4 y5 y6, LeO (pianolaref08_Blocks.j8 k y0 y1 y2 y3 y4 y5 y6) (pianolaref08_Blocks.j8 (k + 1) y0 y1 y2 y3 y4 y5 y6)) ∧ (∀ y0 y1 y2 y3 y4 y5 y6 y7 y8 y9, LeO (pianolaref08_Blocks.j9 k y0 y1 y2 y3 y4 y5 y6 y7 y8 y9) (pianolaref08_Blocks.j9 (k + 1) y0 y1 y2 y3 y4 y5 y6 y7 y8 y9)) ∧ (∀ y0 y1 y2 y3 y4 y5 y6 y7 y8 y9, LeO (pianolaref08_Blocks.j10 k y0 y1 y2 y3 y4 y5 y6 y7 y8 y9) (pianolaref08_Blocks.j10 (k + 1) y0 y1 y2 y3 y4 y5 y6 y7 y8 y9)) ∧ (∀ y0 y1 y2 y3 y4 y5 y6 y7 y8 y9 y10, LeO (pianolaref08_Blocks.j11 k y0 y1 y2 y3 y4 y5 y6 y7 y8 y9 y10) (pianolaref08_Blocks.j11 (k + 1) y0 y1 y2 y3 y4 y5 y6 y7 y8 y9 y10))
  | 0 => ⟨fun _ _ _ r h => by simp [pianolaref08_Blocks.j0] at h, fun _ _ _ r h => by simp [pianolaref08_Blocks.l0] at h, fun _ _ _ _ r h => by simp [pianolaref08_Blocks.l1] at h, fun _ _ _ _ _ r h => by simp [pianolaref08_Blocks.j3] at h, fun _ _ _ _ r h => by simp [pianolaref08_Blocks.j4] at h, fun _ _ _ _ r h => by simp [pianolaref08_Blocks.j5] at h, fun _ _ _ _ _ r h => by simp [pianolaref08_Blocks.l2] at h, fun _ _ _ _ _ r h => by simp [pianolaref08_Blocks.l3] at h, fun _ _ _ _ _ _ _ r h => by simp [pianolaref08_Blocks.j8] at h, fun _ _ _ _ _ _ _ _ _ _ r h => by simp [pianolaref08_Blocks.j9] at h, fun _ _ _ _ _ _ _ _ _ _ r h => by simp [pianolaref08_Blocks.j10] at h, fun _ _ _ _ _ _ _ _ _ _ _ r h => by simp [pianolaref08_Blocks.j11] at h⟩
  | k + 1 => by
    obtain ⟨ih0, ih1, ih2, ih3, ih4, ih5, ih6, ih7, ih8, ih9, ih10, ih11⟩ := pianolaref08_Blocks.mono_l k
    refine ⟨?_, ?_, ?_, ?_, ?_, ?_, ?_, ?_, ?_, ?_, ?_, ?_⟩
    · intro y0 y1 y2
      unfold pianolaref08_Blocks.j0
      repeat' first
      | (with_reducible exact ih0 _ _ _)
      | (with_reducible exact ih1 _ _ _)
      | (with_reducible exact ih2 _ _ _ _)
      | (with_reducible exact ih3 _ _ _ _ _)
      | (with_reducible exact ih4 _ _ _ _)
      | (with_reducible exact ih5 _ _ _ _)
      | (with_reducible exact ih6 _ _ _ _ _)
      | (with_reducible exact ih7 _ _ _ _ _)
      | (with_reducible exact ih8 _ _ _ _ _ _ _)
      | (with_reducible exact ih9 _ _ _ _ _ _ _ _ _ _)
      | (with_reducible exact ih10 _ _ _ _ _ _ _ _ _ _)
      | (with_reducible exact ih11 _ _ _ _ _ _ _ _ _ _ _)
      | (with_reducible exact pianolaref08_find.mono _ _ _)
      | (with_reducible exact LeO.refl _)
      | (with_reducible exact LeO.none _)
      | (with_reducible refine LeO.ite ?_ ?_)
      | (with_reducible refine LeO.bind ?_ (fun _ => ?_))
      | exact ih0 _ _ _
      | exact ih1 _ _ _
      | exact ih2 _ _ _ _
      | exact ih3 _ _ _ _ _
      | exact ih4 _ _ _ _
      | exact ih5 _ _ _ _
      | exact ih6 _ _ _ _ _
      | exact ih7 _ _ _ _ _
      | exact ih8 _ _ _ _ _ _ _
      | exact ih9 _ _ _ _ _ _ _ _ _ _
      | exact ih10 _ _ _ _ _ _ _ _ _ _
      | exact ih11 _ _ _ _ _ _ _ _ _ _ _
      | exact pianolaref08_find.mono _ _ _
      | exact LeO.none _
      | refine LeO.ite ?_ ?_
      | refine LeO.bind ?_ (fun _ => ?_)
    · intro y0 y1 y2
      unfold pianolaref08_Blocks.l0
      repeat' first
      | (with_reducible exact ih0 _ _ _)
      | (with_reducible exact ih1 _ _ _)
      | (with_reducible exact ih2 _ _ _ _)
      | (with_reducible exact ih3 _ _ _ _ _)
      | (with_reducible exact ih4 _ _ _ _)
      | (with_reducible exact ih5 _ _ _ _)
      | (with_reducible exact ih6 _ _ _ _ _)
      | (with_reducible exact ih7 _ _ _ _ _)
      | (with_reducible exact ih8 _ _ _ _ _ _ _)
      | (with_reducible exact ih9 _ _ _ _ _ _ _ _ _ _)
      | (with_reducible exact ih10 _ _ _ _ _ _ _ _ _ _)
      | (with_reducible exact ih11 _ _ _ _ _ _ _ _ _ _ _)
      | (with_reducible exact pianolaref08_find.mono _ _ _)
      | (with_reducible exact LeO.refl _)
      | (with_reducible exact LeO.none _)
      | (with_reducible refine LeO.ite ?_ ?_)
      | (with_reducible refine LeO.bind ?_ (fun _ => ?_))
      | exact ih0 _ _ _
      | exact ih1 _ _ _
      | exact ih2 _ _ _ _
      | exact ih3 _ _ _ _ _
      | exact ih4 _ _ _ _
      | exact ih5 _ _ _ _
      | exact ih6 _ _ _ _ _
      | exact ih7 _ _ _ _ _
      | exact ih8 _ _ _ _ _ _ _
      | exact ih9 _ _ _ _ _ _ _ _ _ _
      | exact ih10 _ _ _ _ _ _ _ _ _ _
      | exact ih11 _ _ _ _ _ _ _ _ _ _ _
      | exact pianolaref08_find.mono _ _ _
      | exact LeO.none _
      | refine LeO.ite ?_ ?_
      | refine LeO.bind ?_ (fun _ => ?_)
    · intro y0 y1 y2 y3
      unfold pianolaref08_Blocks.l1
      repeat' first
      | (with_reducible exact ih0 _ _ _)
      | (with_reducible exact ih1 _ _ _)
      | (with_reducible exact ih2 _ _ _ _)
      | (with_reducible exact ih3 _ _ _ _ _)
      | (with_reducible exact ih4 _ _ _ _)
      | (with_reducible exact ih5 _ _ _ _)
      | (with_reducible exact ih6 _ _ _ _ _)
      | (with_reducible exact ih7 _ _ _ _ _)
      | (with_reducible exact ih8 _ _ _ _ _ _ _)
      | (with_reducible exact ih9 _ _ _ _ _ _ _ _ _ _)
      | (with_reducible exact ih10 _ _ _ _ _ _ _ _ _ _)
      | (with_reducible exact ih11 _ _ _ _ _ _ _ _ _ _ _)
      | (with_reducible exact pianolaref08_find.mono _ _ _)
      | (with_reducible exact LeO.refl _)
      | (with_reducible exact LeO.none _)
      | (with_reducible refine LeO.ite ?_ ?_)
      | (with_reducible refine LeO.bind ?_ (fun _ => ?_))
      | exact ih0 _ _ _
      | exact ih1 _ _ _
      | exact ih2 _ _ _ _
      | exact ih3 _ _ _ _ _
      | exact ih4 _ _ _ _
      | exact ih5 _ _ _ _
      | exact ih6 _ _ _ _ _
      | exact ih7 _ _ _ _ _
      | exact ih8 _ _ _ _ _ _ _
      | exact ih9 _ _ _ _ _ _ _ _ _ _
      | exact ih10 _ _ _ _ _ _ _ _ _ _
      | exact ih11 _ _ _ _ _ _ _ _ _ _ _
      | exact pianolaref08_find.mono _ _ _
      | exact LeO.none _
      | refine LeO.ite ?_ ?_
      | refine LeO.bind ?_ (fun _ => ?_)
    · intro y0 y1 y2 y3 y4
      unfold pianolaref08_Blocks.j3
      repeat' first
      | (with_reducible exact ih0 _ _ _)
      | (with_reducible exact ih1 _ _ _)
      | (with_reducible exact ih2 _ _ _ _)
      | (with_reducible exact ih3 _ _ _ _ _)
      | (with_reducible exact ih4 _ _ _ _)
      | (with_reducible exact ih5 _ _ _ _)
      | (with_reducible exact ih6 _ _ _ _ _)
      | (with_reducible exact ih7 _ _ _ _ _)
      | (with_reducible exact ih8 _ _ _ _ _ _ _)
      | (with_reducible exact ih9 _ _ _ _ _ _ _ _ _ _)
      | (with_reducible exact ih10 _ _ _ _ _ _ _ _ _ _)
      | (with_reducible exact ih11 _ _ _ _ _ _ _ _ _ _ _)
      | (with_reducible exact pianolaref08_find.mono _ _ _)
      | (with_reducible exact LeO.refl _)
      | (with_reducible exact LeO.none _)
      | (with_reducible refine LeO.ite ?_ ?_)
      | (with_reducible refine LeO.bind ?_ (fun _ => ?_))
      | exact ih0 _ _ _
      | exact ih1 _ _ _
      | exact ih2 _ _ _ _
      | exact ih3 _ _ _ _ _
      | exact ih4 _ _ _ _
      | exact ih5 _ _ _ _
      | exact ih6 _ _ _ _ _
      | exact ih7 _ _ _ _ _
      | exact ih8 _ _ _ _ _ _ _
      | exact ih9 _ _ _ _ _ _ _ _ _ _
      | exact ih10 _ _ _ _ _ _ _ _ _ _
      | exact ih11 _ _ _ _ _ _ _ _ _ _ _
      | exact pianolaref08_find.mono _ _ _
      | exact LeO.none _
      | refine LeO.ite ?_ ?_
      | refine LeO.bind ?_ (fun _ => ?_)
    · intro y0 y1 y2 y3
      unfold pianolaref08_Blocks.j4
      repeat' first
      | (with_reducible exact ih0 _ _ _)
      | (with_reducible exact ih1 _ _ _)
      | (with_reducible exact ih2 _ _ _ _)
      | (with_reducible exact ih3 _ _ _ _ _)
      | (with_reducible exact ih4 _ _ _ _)
      | (with_reducible exact ih5 _ _ _ _)
      | (with_reducible exact ih6 _ _ _ _ _)
      | (with_reducible exact ih7 _ _ _ _ _)
      | (with_reducible exact ih8 _ _ _ _ _ _ _)
      | (with_reducible exact ih9 _ _ _ _ _ _ _ _ _ _)
      | (with_reducible exact ih10 _ _ _ _ _ _ _ _ _ _)
      | (with_reducible exact ih11 _ _ _ _ _ _ _ _ _ _ _)
      | (with_reducible exact pianolaref08_find.mono _ _ _)
      | (with_reducible exact LeO.refl _)
      | (with_reducible exact LeO.none _)
      | (with_reducible refine LeO.ite ?_ ?_)
      | (with_reducible refine LeO.bind ?_ (fun _ => ?_))
      | exact ih0 _ _ _
      | exact ih1 _ _ _
      | exact ih2 _ _ _ _
      | exact ih3 _ _ _ _ _
      | exact ih4 _ _ _ _
      | exact ih5 _ _ _ _
      | exact ih6 _ _ _ _ _
      | exact ih7 _ _ _ _ _
      | exact ih8 _ _ _ _ _ _ _
      | exact ih9 _ _ _ _ _ _ _ _ _ _
      | exact ih10 _ _ _ _ _ _ _ _ _ _
      | exact ih11 _ _ _ _ _ _ _ _ _ _ _
      | exact pianolaref08_find.mono _ _ _
      | exact LeO.none _
      | refine LeO.ite ?_ ?_
      | refine LeO.bind ?_ (fun _ => ?_)
    · intro y0 y1 y2 y3
      unfold pianolaref08_Blocks.j5
      repeat' first
      | (with_reducible exact ih0 _ _ _)
      | (with_reducible exact ih1 _ _ _)
      | (with_reducible exact ih2 _ _ _ _)
      | (with_reducible exact ih3 _ _ _ _ _)
      | (with_reducible exact ih4 _ _ _ _)
      | (with_reducible exact ih5 _ _ _ _)
      | (with_reducible exact ih6 _ _ _ _ _)
      | (with_reducible exact ih7 _ _ _ _ _)
      | (with_reducible exact ih8 _ _ _ _ _ _ _)
      | (with_reducible exact ih9 _ _ _ _ _ _ _ _ _ _)
      | (with_reducible exact ih10 _ _ _ _ _ _ _ _ _ _)
      | (with_reducible exact ih11 _ _ _ _ _ _ _ _ _ _ _)
      | (with_reducible exact pianolaref08_find.mono _ _ _)
      | (with_reducible exact LeO.refl _)
      | (with_reducible exact LeO.none _)
      | (with_reducible refine LeO.ite ?_ ?_)
      | (with_reducible refine LeO.bind ?_ (fun _ => ?_))
      | exact ih0 _ _ _
      | exact ih1 _ _ _
      | exact ih2 _ _ _ _
      | exact ih3 _ _ _ _ _
      | exact ih4 _ _ _ _
      | exact ih5 _ _ _ _
      | exact ih6 _ _ _ _ _
      | exact ih7 _ _ _ _ _
      | exact ih8 _ _ _ _ _ _ _
      | exact ih9 _ _ _ _ _ _ _ _ _ _
      | exact ih10 _ _ _ _ _ _ _ _ _ _
      | exact ih11 _ _ _ _ _ _ _ _ _ _ _
      | exact pianolaref08_find.mono _ _ _
      | exact LeO.none _
      | refine LeO.ite ?_ ?_
      | refine LeO.bind ?_ (fun _ => ?_)
    · intro y0 y1 y2 y3 y4
      unfold pianolaref08_Blocks.l2
      repeat' first
      | (with_reducible exact ih0 _ _ _)
      | (with_reducible exact ih1 _ _ _)
      | (with_reducible exact ih2 _ _ _ _)
      | (with_reducible exact ih3 _ _ _ _ _)
      | (with_reducible exact ih4 _ _ _ _)
      | (with_reducible exact ih5 _ _ _ _)
      | (with_reducible exact ih6 _ _ _ _ _)
      | (with_reducible exact ih7 _ _ _ _ _)
      | (with_reducible exact ih8 _ _ _ _ _ _ _)
      | (with_reducible exact ih9 _ _ _ _ _ _ _ _ _ _)
      | (with_reducible exact ih10 _ _ _ _ _ _ _ _ _ _)
      | (with_reducible exact ih11 _ _ _ _ _ _ _ _ _ _ _)
      | (with_reducible exact pianolaref08_find.mono _ _ _)
      | (with_reducible exact LeO.refl _)
      | (with_reducible exact LeO.none _)
      | (with_reducible refine LeO.ite ?_ ?_)
      | (with_reducible refine LeO.bind ?_ (fun _ => ?_))
      | exact ih0 _ _ _
      | exact ih1 _ _ _
      | exact ih2 _ _ _ _
      | exact ih3 _ _ _ _ _
      | exact ih4 _ _ _ _
      | exact ih5 _ _ _ _
      | exact ih6 _ _ _ _ _
      | exact ih7 _ _ _ _ _
      | exact ih8 _ _ _ _ _ _ _
      | exact ih9 _ _ _ _ _ _ _ _ _ _
      | exact ih10 _ _ _ _ _ _ _ _ _ _
      | exact ih11 _ _ _ _ _ _ _ _ _ _ _
      | exact pianolaref08_find.mono _ _ _
      | exact LeO.none _
      | refine LeO.ite ?_ ?_
      | refine LeO.bind ?_ (fun _ => ?_)
    · intro y0 y1 y2 y3 y4
      unfold pianolaref08_Blocks.l3
      repeat' first
      | (with_reducible exact ih0 _ _ _)
      | (with_reducible exact ih1 _ _ _)
      | (with_reducible exact ih2 _ _ _ _)
      | (with_reducible exact ih3 _ _ _ _ _)
      | (with_reducible exact ih4 _ _ _ _)
      | (with_reducible exact ih5 _ _ _ _)
      | (with_reducible exact ih6 _ _ _ _ _)
      | (with_reducible exact ih7 _ _ _ _ _)
      | (with_reducible exact ih8 _ _ _ _ _ _ _)
      | (with_reducible exact ih9 _ _ _ _ _ _ _ _ _ _)
      | (with_reducible exact ih10 _ _ _ _ _ _ _ _ _ _)
      | (with_reducible exact ih11 _ _ _ _ _ _ _ _ _ _ _)
      | (with_reducible exact pianolaref08_find.mono _ _ _)
      | (with_reducible exact LeO.refl _)
      | (with_reducible exact LeO.none _)
      | (with_reducible refine LeO.ite ?_ ?_)
      | (with_reducible refine LeO.bind ?_ (fun _ => ?_))
      | exact ih0 _ _ _
      | exact ih1 _ _ _
      | exact ih2 _ _ _ _
      | exact ih3 _ _ _ _ _
      | exact ih4 _ _ _ _
      | exact ih5 _ _ _ _
      | exact ih6 _ _ _ _ _
      | exact ih7 _ _ _ _ _
      | exact ih8 _ _ _ _ _ _ _
      | exact ih9 _ _ _ _ _ _ _ _ _ _
      | exact ih10 _ _ _ _ _ _ _ _ _ _
      | exact ih11 _ _ _ _ _ _ _ _ _ _ _
      | exact pianolaref08_find.mono _ _ _
      | exact LeO.none _
      | refine LeO.ite ?_ ?_
      | refine LeO.bind ?_ (fun _ => ?_)
    · intro y0 y1 y2 y3 y4 y5 y6
      unfold pianolaref08_Blocks.j8
      repeat' first
      | (with_reducible exact ih0 _ _ _)
      | (with_reducible exact ih1 _ _ _)
      | (with_reducible exact ih2 _ _ _ _)
      | (with_reducible exact ih3 _ _ _ _ _)
      | (with_reducible exact ih4 _ _ _ _)
      | (with_reducible exact ih5 _ _ _ _)
      | (with_reducible exact ih6 _ _ _ _ _)
      | (with_reducible exact ih7 _ _ _ _ _)
      | (with_reducible exact ih8 _ _ _ _ _ _ _)
      | (with_reducible exact ih9 _ _ _ _ _ _ _ _ _ _)
      | (with_reducible exact ih10 _ _ _ _ _ _ _ _ _ _)
      | (with_reducible exact ih11 _ _ _ _ _ _ _ _ _ _ _)
      | (with_reducible exact pianolaref08_find.mono _ _ _)
      | (with_reducible exact LeO.refl _)
      | (with_reducible exact LeO.none _)
      | (with_reducible refine LeO.ite ?_ ?_)
      | (with_reducible refine LeO.bind ?_ (fun _ => ?_))
      | exact ih0 _ _ _
      | exact ih1 _ _ _
      | exact ih2 _ _ _ _
      | exact ih3 _ _ _ _ _
      | exact ih4 _ _ _ _
      | exact ih5 _ _ _ _
      | exact ih6 _ _ _ _ _
      | exact ih7 _ _ _ _ _
      | exact ih8 _ _ _ _ _ _ _
      | exact ih9 _ _ _ _ _ _ _ _ _ _
      | exact ih10 _ _ _ _ _ _ _ _ _ _
      | exact ih11 _ _ _ _ _ _ _ _ _ _ _
      | exact pianolaref08_find.mono _ _ _
      | exact LeO.none _
      | refine LeO.ite ?_ ?_
      | refine LeO.bind ?_ (fun _ => ?_)
    · intro y0 y1 y2 y3 y4 y5 y6 y7 y8 y9
      unfold pianolaref08_Blocks.j9
      repeat' first
      | (with_reducible exact ih0 _ _ _)
      | (with_reducible exact ih1 _ _ _)
      | (with_reducible exact ih2 _ _ _ _)
      | (with_reducible exact ih3 _ _ _ _ _)
      | (with_reducible exact ih4 _ _ _ _)
      | (with_reducible exact ih5 _ _ _ _)
      | (with_reducible exact ih6 _ _ _ _ _)
      | (with_reducible exact ih7 _ _ _ _ _)
      | (with_reducible exact ih8 _ _ _ _ _ _ _)
      | (with_reducible exact ih9 _ _ _ _ _ _ _ _ _ _)
      | (with_reducible exact ih10 _ _ _ _ _ _ _ _ _ _)
      | (with_reducible exact ih11 _ _ _ _ _ _ _ _ _ _ _)
      | (with_reducible exact pianolaref08_find.mono _ _ _)
      | (with_reducible exact LeO.refl _)
      | (with_reducible exact LeO.none _)
      | (with_reducible refine LeO.ite ?_ ?_)
      | (with_reducible refine LeO.bind ?_ (fun _ => ?_))
      | exact ih0 _ _ _
      | exact ih1 _ _ _
      | exact ih2 _ _ _ _
      | exact ih3 _ _ _ _ _
      | exact ih4 _ _ _ _
      | exact ih5 _ _ _ _
      | exact ih6 _ _ _ _ _
      | exact ih7 _ _ _ _ _
      | exact ih8 _ _ _ _ _ _ _
      | exact ih9 _ _ _ _ _ _ _ _ _ _
      | exact ih10 _ _ _ _ _ _ _ _ _ _
      | exact ih11 _ _ _ _ _ _ _ _ _ _ _
      | exact pianolaref08_find.mono _ _ _
      | exact LeO.none _
      | refine LeO.ite ?_ ?_
      | refine LeO.bind ?_ (fun _ => ?_)
    · intro y0 y1 y2 y3 y4 y5 y6 y7 y8 y9
      unfold pianolaref08_Blocks.j10
      repeat' first
      | (with_reducible exact ih0 _ _ _)
      | (with_reducible exact ih1 _ _ _)
      | (with_reducible exact ih2 _ _ _ _)
      | (with_reducible exact ih3 _ _ _ _ _)
      | (with_reducible exact ih4 _ _ _ _)
      | (with_reducible exact ih5 _ _ _ _)
      | (with_reducible exact ih6 _ _ _ _ _)
      | (with_reducible exact ih7 _ _ _ _ _)
      | (with_reducible exact ih8 _ _ _ _ _ _ _)
      | (with_reducible exact ih9 _ _ _ _ _ _ _ _ _ _)
      | (with_reducible exact ih10 _ _ _ _ _ _ _ _ _ _)
      | (with_reducible exact ih11 _ _ _ _ _ _ _ _ _ _ _)
      | (with_reducible exact pianolaref08_find.mono _ _ _)
      | (with_reducible exact LeO.refl _)
      | (with_reducible exact LeO.none _)
      | (with_reducible refine LeO.ite ?_ ?_)
      | (with_reducible refine LeO.bind ?_ (fun _ => ?_))
      | exact ih0 _ _ _
      | exact ih1 _ _ _
      | exact ih2 _ _ _ _
      | exact ih3 _ _ _ _ _
      | exact ih4 _ _ _ _
      | exact ih5 _ _ _ _
      | exact ih6 _ _ _ _ _
      | exact ih7 _ _ _ _ _
      | exact ih8 _ _ _ _ _ _ _
      | exact ih9 _ _ _ _ _ _ _ _ _ _
      | exact ih10 _ _ _ _ _ _ _ _ _ _
      | exact ih11 _ _ _ _ _ _ _ _ _ _ _
      | exact pianolaref08_find.mono _ _ _
      | exact LeO.none _
      | refine LeO.ite ?_ ?_
      | refine LeO.bind ?_ (fun _ => ?_)
    · intro y0 y1 y2 y3 y4 y5 y6 y7 y8 y9 y10
      unfold pianolaref08_Blocks.j11
      repeat' first
      | (with_reducible exact ih0 _ _ _)
      | (with_reducible exact ih1 _ _ _)
      | (with_reducible exact ih2 _ _ _ _)
      | (with_reducible exact ih3 _ _ _ _ _)
      | (with_reducible exact ih4 _ _ _ _)
      | (with_reducible exact ih5 _ _ _ _)
      | (with_reducible exact ih6 _ _ _ _ _)
      | (with_reducible exact ih7 _ _ _ _ _)
      | (with_reducible exact ih8 _ _ _ _ _ _ _)
      | (with_reducible exact ih9 _ _ _ _ _ _ _ _ _ _)
      | (with_reducible exact ih10 _ _ _ _ _ _ _ _ _ _)
      | (with_reducible exact ih11 _ _ _ _ _ _ _ _ _ _ _)
      | (with_reducible exact pianolaref08_find.mono _ _ _)
      | (with_reducible exact LeO.refl _)
      | (with_reducible exact LeO.none _)
      | (with_reducible refine LeO.ite ?_ ?_)
      | (with_reducible refine LeO.bind ?_ (fun _ => ?_))
      | exact ih0 _ _ _
      | exact ih1 _ _ _
      | exact ih2 _ _ _ _
      | exact ih3 _ _ _ _ _
      | exact ih4 _ _ _ _
      | exact ih5 _ _ _ _
      | exact ih6 _ _ _ _ _
      | exact ih7 _ _ _ _ _
      | exact ih8 _ _ _ _ _ _ _
      | exact ih9 _ _ _ _ _ _ _ _ _ _
      | exact ih10 _ _ _ _ _ _ _ _ _ _
      | exact ih11 _ _ _ _ _ _ _ _ _ _ _
      | exact pianolaref08_find.mono _ _ _
      | exact LeO.none _
      | refine LeO.ite ?_ ?_
      | refine LeO.bind ?_ (fun _ => ?_)
theorem pianolaref08_Blocks.mono : ∀ a0 a1 k, LeO (pianolaref08_Blocks.f k a0 a1) (pianolaref08_Blocks.f (k + 1) a0 a1) := by
  intro a0 a1 k
  obtain ⟨ih0, ih1, ih2, ih3, ih4, ih5, ih6, ih7, ih8, ih9, ih10, ih11⟩ := pianolaref08_Blocks.mono_l k
  unfold pianolaref08_Blocks.f
  repeat' first
      | (with_reducible exact ih0 _ _ _)
      | (with_reducible exact ih1 _ _ _)
      | (with_reducible exact ih2 _ _ _ _)
      | (with_reducible exact ih3 _ _ _ _ _)
      | (with_reducible exact ih4 _ _ _ _)
      | (with_reducible exact ih5 _ _ _ _)
      | (with_reducible exact ih6 _ _ _ _ _)
      | (with_reducible exact ih7 _ _ _ _ _)
      | (with_reducible exact ih8 _ _ _ _ _ _ _)
      | (with_reducible exact ih9 _ _ _ _ _ _ _ _ _ _)
      | (with_reducible exact ih10 _ _ _ _ _ _ _ _ _ _)
      | (with_reducible exact ih11 _ _ _ _ _ _ _ _ _ _ _)
      | (with_reducible exact pianolaref08_find.mono _ _ _)
      | (with_reducible exact LeO.refl _)
      | (with_reducible exact LeO.none _)
      | (with_reducible refine LeO.ite ?_ ?_)
      | (with_reducible refine LeO.bind ?_ (fun _ => ?_))
      | exact ih0 _ _ _
      | exact ih1 _ _ _
      | exact ih2 _ _ _ _
      | exact ih3 _ _ _ _ _
      | exact ih4 _ _ _ _
      | exact ih5 _ _ _ _
      | exact ih6 _ _ _ _ _
      | exact ih7 _ _ _ _ _
      | exact ih8 _ _ _ _ _ _ _
      | exact ih9 _ _ _ _ _ _ _ _ _ _
      | exact ih10 _ _ _ _ _ _ _ _ _ _
      | exact ih11 _ _ _ _ _ _ _ _ _ _ _
      | exact pianolaref08_find.mono _ _ _
      | exact LeO.none _
      | refine LeO.ite ?_ ?_
      | refine LeO.bind ?_ (fun _ => ?_)
def pianolaref08_Blocks.T6 : Bool × List (List Nat × List Nat) := (true, [([], []), ([], []), ([0, 1], [0, 1]), ([2], [2]), ([], []), ([], []), ([5], [5]), ([4, 6], [4, 6]), ([7], [7]), ([3, 8], [3, 8])])
def pianolaref08_Blocks.B6 : List Nat := [0, 0, 3, 7, 0, 0, 32, 112, 240, 511]
theorem pianolaref08_Blocks.tab6 : rtab .any (opsOf Try.f15 6) = pianolaref08_Blocks.T6 := by kernel_rfl
theorem pianolaref08_Blocks.bits6 : waitsOk pianolaref08_Blocks.T6.2 pianolaref08_Blocks.B6 = true := by kernel_rfl
def pianolaref08_Blocks.T40 : Bool × List (List Nat × List Nat) := (true, [([], []), ([0], [0]), ([], []), ([], []), ([], []), ([4], [4]), ([3, 5], [3, 5]), ([2, 6, 6], [2, 6]), ([7], [7]), ([1, 8, 7], [1, 8]), ([0, 1, 2, 3, 4, 5, 6, 7, 8, 9], []), ([10, 9, 9, 0, 1, 2, 3, 4, 5, 6, 7, 8, 9], [9, 10])])
def pianolaref08_Blocks.B40 : List Nat := [0, 1, 0, 0, 0, 16, 56, 124, 252, 511, 1023, 2047]
theorem pianolaref08_Blocks.tab40 : rtab .any (opsOf Try.f15 40) = pianolaref08_Blocks.T40 := by kernel_rfl
theorem pianolaref08_Blocks.bits40 : waitsOk pianolaref08_Blocks.T40.2 pianolaref08_Blocks.B40 = true := by kernel_rfl
set_option maxHeartbeats 8000000 in
set_option maxRecDepth 100000 in
theorem pianolaref08_Blocks.calls (k : Nat) (A0 : Option Addr) (c0 : Nat) (l0 : List (S34)) (A1 : Option Addr) (c1 : Nat) (l1 : List Int) (r1 : List (S30)) (r2 : Int) (r3 : Int) (w : World) (hr0 : Kd.C k34 w A0 l0.length l0) (hc0 : l0.length ≤ c0) (hr1 : Kd.C (Kd.int .i64) w A1 l1.length l1) (hc1 : l1.length ≤ c1) (h : pianolaref08_Blocks.f k l0 l1 = some (r1, r2, r3)) :
  Calls Try.prog 15 #[.slice A0 l0.length c0, .slice A1 l1.length c1] w fun e w' => ∃ v0_ : Value, e = .returned (.tuple #[v0_, .int .i64 r2, .int .i64 r3]) ∧ Kd.S k30 30 w' w.heap.size (fun _ => True) v0_ r1 ∧ Below w.heap.size w w' := by
 have hu30 := Try.underlying30
 have hu34 := Try.underlying34
 have HR0 := Aside0.mk hr0
 have HC0 := Aside0.mk hc0
 clear hr0 hc0
 have HR1 := Aside0.mk hr1
 have HC1 := Aside0.mk hc1
 clear hr1 hc1
 have HB := Aside0.mk (Below.refl w.heap.size w)
 have H : (if (l0.length : Int) = (l1.length : Int) then (pianolaref08_Blocks.j0 k l0 l1 ((l0.length : Int) == 0)) else (pianolaref08_Blocks.j0 k l0 l1 true)) = some (r1, r2, r3) := h
 clear h
 have HC3 := Aside0.mk H
 clear H
 go_enter Try.func15, Try.ntmps15
 go_upto_region 1 with (fail)
 go_cut [27] (fun v27 wc => ∃ (kq : Nat) (x27_2 : Bool), v27 = .bool x27_2 ∧ Aside0 (pianolaref08_Blocks.j0 kq l0 l1 x27_2 = some (r1, r2, r3)) ∧ Aside0 (kq ≤ k) ∧ Aside0 (Below w.heap.size w wc))
 case first => as_aux_lemma =>
  have H := HC3.out
  clear HC3
  by_cases c4 : (l0.length : Int) = (l1.length : Int)
  ·rw [if_pos c4] at H
   have c4b0 : ((l0.length : Int) == (l1.length : Int)) = true := beq_iff_eq.mpr c4
   have c4b1 : ((l0.length : Int) != (l1.length : Int)) = false := bne_eq_false_iff_eq.mpr c4
   have c4b2 : (l0.length == l1.length) = true := by first | simpa using c4 | (simp at c4 ⊢; omega)
   clear c4
   (first | rw [c4b0] | (simp only [i64_w, i32_w]; rw [c4b0]) | skip)
   have H' := Aside0.mk H
   clear H
   go_wp2
   go_meet
   case rel => exact ⟨_, (((l0.length : Int) == 0)), (by first | rfl | (simp; done) | (simp [*]; done)), H', ⟨by first | omega | exact Nat.le_refl _⟩, ⟨by repeat (first | (with_reducible first | exact HB.out | apply below_alloc | apply pw_below_drewN | apply below_drew1) | exact HB.out)⟩⟩
  ·rw [if_neg c4] at H
   have c4b0 : ((l0.length : Int) == (l1.length : Int)) = false := beq_eq_false_iff_ne.mpr c4
   have c4b1 : ((l0.length : Int) != (l1.length : Int)) = true := bne_iff_ne.mpr c4
   have c4b2 : (l0.length == l1.length) = false := by first | simpa using c4 | (simp at c4 ⊢; omega)
   (first | rw [c4b0] | (simp only [i64_w, i32_w]; rw [c4b0]) | skip)
   have H' := Aside0.mk H
   clear H
   go_wp2
   go_meet
   case rel => exact ⟨_, (true), (by first | rfl | (simp; done) | (simp [*]; done)), H', ⟨by first | omega | exact Nat.le_refl _⟩, ⟨by repeat (first | (with_reducible first | exact HB.out | apply below_alloc | apply pw_below_drewN | apply below_drew1) | exact HB.out)⟩⟩
 case rest => as_aux_lemma =>
  clear HC3
  try clear c1
  try clear p2
  try clear c4
  try clear c4b0
  try clear c4b1
  try clear c4b2
  obtain ⟨kq, x27_2, rfl, HA, HJ2, HB⟩ := hcut
  cases kq with
  | zero => exact absurd HA.out (by simp [pianolaref08_Blocks.j0])
  | succ kj2 =>
   have H := HA.out
   clear HA
   simp only [pianolaref08_Blocks.j0] at H
   by_cases c5 : x27_2 = true
   ·subst c5
    have H1 : (some (([] : List (S30)), 1, 0)) = some (r1, r2, r3) := by rw [if_pos rfl] at H; exact H
    clear H
    have H := H1
    clear H1
    simp only [Option.some.injEq, Prod.mk.injEq] at H
    obtain ⟨rfl, rfl, rfl⟩ := H
    go_wp2
    go_ret3
    exact ⟨_, by first | rfl | (simp [errW_none, errW_some] <;> rfl) | (simp [*, errW_none, errW_some] <;> rfl), by first | exact Kd.S_nil _ _ _ _ _ | exact Kd.N_nil _ _ _ _ _ | exact Kd.V_nil _ _ _ _ _ | exact Kd.Q_nil _ _ _ _ _ | exact Kd.R_nil _ _ _ _ _, by repeat (first | (with_reducible first | exact HB.out | apply below_alloc | apply pw_below_drewN | apply below_drew1) | exact HB.out)⟩
   ·replace c5 := Bool.eq_false_iff.mpr c5
    subst c5
    have H1 : (pianolaref08_Blocks.l0 kj2 l0 l1 1) = some (r1, r2, r3) := by rw [if_neg (show ¬ (false = true) by decide)] at H; exact H
    clear H
    have H := H1
    clear H1
    have H' := Aside0.mk H
    clear H
    go_wp2
    go_loopg [7] kj2 (fun kq v7 w' => ∃ (x7_2 : Int), v7 = .int .i64 x7_2 ∧ Aside0 (pianolaref08_Blocks.l0 kq l0 l1 x7_2 = some (r1, r2, r3)) ∧ Aside0 (kq ≤ kj2) ∧ Aside0 (Below w.heap.size w w'))
    case atStart => exact ⟨(1), (by first | rfl | (simp; done) | (simp [*]; done)), H', ⟨Nat.le_refl _⟩, ⟨by repeat (first | (with_reducible first | exact HB.out | apply below_alloc | apply pw_below_drewN | apply below_drew1) | exact HB.out)⟩⟩
    case round => as_aux_lemma =>
     clear H'
     try clear c1
     try clear p2
     try clear c4
     try clear c4b0
     try clear c4b1
     try clear c4b2
     try clear c5
     try clear p2
     obtain ⟨x7_2, rfl, HA, HK2, HB⟩ := hrel
     cases gk with
     | zero => exact absurd HA.out (by simp [pianolaref08_Blocks.l0])
     | succ k2 =>
      have H := HA.out
      clear HA
      simp only [pianolaref08_Blocks.l0] at H
      by_cases c6 : x7_2 < (l1.length : Int)
      ·rw [if_pos c6] at H
       have c6b0 : decide (x7_2 < (l1.length : Int)) = true := decide_eq_true c6
       clear c6
       by_cases c7 : 0 ≤ x7_2
       ·rw [if_pos c7] at H
        have c7b0 : decide (0 ≤ x7_2) = true := decide_eq_true c7
        clear c7
        obtain ⟨ji8, hji8⟩ : ∃ j_ : Int, (wrap64 (x7_2 - 1)) = j_ := ⟨_, rfl⟩
        replace H : (if 0 ≤ (ji8) then (if (ji8) < (l1.length : Int) then (if (rd l1 x7_2) ≤ (rd l1 (ji8)) then (some (([] : List (S30)), 1, 0)) else (pianolaref08_Blocks.l0 k2 l0 l1 (wrap64 (x7_2 + 1)))) else (none)) else (none)) = some (r1, r2, r3) := by first | (rw [hji8] at H; exact H) | (simp only [hji8] at H ⊢; exact H)
        have hji8w : (IntKind.i64.wrap (x7_2 - 1)) = ji8 := (i64_w _).trans hji8
        by_cases c9 : 0 ≤ (ji8)
        ·rw [if_pos c9] at H
         have c9b0 : decide (0 ≤ (ji8)) = true := decide_eq_true c9
         clear c9
         by_cases c10 : (ji8) < (l1.length : Int)
         ·rw [if_pos c10] at H
          have c10b0 : decide ((ji8) < (l1.length : Int)) = true := decide_eq_true c10
          clear c10
          by_cases c11 : (rd l1 x7_2) ≤ (rd l1 (ji8))
          ·rw [if_pos c11] at H
           have c11b0 : decide ((rd l1 x7_2) ≤ (rd l1 (ji8))) = true := decide_eq_true c11
           clear c11
           simp only [Option.some.injEq, Prod.mk.injEq] at H
           obtain ⟨rfl, rfl, rfl⟩ := H
           try go_wp2
           have n0_ := Aside0.mk (below_drew1 HB.out)
           clear HB
           have HB := n0_
           clear n0_
           have p186 : 0 ≤ (x7_2 : Int) := of_decide_eq_true (by first | (with_reducible assumption) | assumption)
           have q186 : x7_2 < (l1.length : Int) := of_decide_eq_true (by first | (with_reducible assumption) | assumption)
           obtain ⟨ad186, e186, hx186_0⟩ := Kd.at_int HR1.out x7_2 p186 q186
           have hw186_0 := hx186_0
           cases e186
           replace hx186_0 := (HB.out.cell (World.block_lt_of_cell? w _ hx186_0)).trans hx186_0
           replace p186 := eq_true p186
           replace q186 := eq_true q186
           have p187 : 0 ≤ ((ji8) : Int) := of_decide_eq_true (by first | (with_reducible assumption) | assumption)
           have q187 : (ji8) < (l1.length : Int) := of_decide_eq_true (by first | (with_reducible assumption) | assumption)
           obtain ⟨ad187, e187, hx187_0⟩ := Kd.at_int HR1.out (ji8) p187 q187
           have hw187_0 := hx187_0
           obtain rfl : ad186 = ad187 := (by injection e187)
           replace hx187_0 := (HB.out.cell (World.block_lt_of_cell? w _ hx187_0)).trans hx187_0
           replace p187 := eq_true p187
           replace q187 := eq_true q187
           refine start_ (n := 10) (S := fun w' => w'.cell? (ad186.add (x7_2).toNat) = some (.int .i64 (rd l1 x7_2)) ∧ w'.cell? (ad186.add ((ji8)).toNat) = some (.int .i64 (rd l1 (ji8)))) (ds := []) #[false, false, false, false, false, false, false, false, false, false] (by kernel_rfl) rfl rfl ⟨((HB.out.cell (World.block_lt_of_cell? w _ hw186_0)).trans hw186_0), ((HB.out.cell (World.block_lt_of_cell? w _ hw187_0)).trans hw187_0)⟩ (fun hHeld => ?_); refine with_tabW pianolaref08_Blocks.tab6 pianolaref08_Blocks.bits6 (fun HT_ HW_ => ?_)
           generalize wr.drew = w12 at HB hx186_0 hx187_0 hHeld ⊢
           refine pure_ (i := 0) (N := some 34) (v := ?_) (a' := ?_) #[true, false, false, false, false, false, false, false, false, false] rfl rfl (any_of HT_.out (by kernel_rfl)) (fun _ _ _ h => h) (Or.inl ⟨by rfl, ?_⟩) ?_ ?_
           rotate_left
           ·intro w'
            go_simp
            with_reducible rfl
           rotate_left
           ·simp only [Act.put, List.setIfInBounds_toArray, List.set_cons_zero, List.set_cons_succ, i64_w, i32_w]
            rfl
           refine pure_ (i := 1) (N := some 35) (v := ?_) (a' := ?_) #[true, true, false, false, false, false, false, false, false, false] rfl rfl (any_of HT_.out (by kernel_rfl)) (fun _ _ _ h => h) (Or.inl ⟨by rfl, ?_⟩) ?_ ?_
           rotate_left
           ·intro w'
            go_simp
            with_reducible rfl
           rotate_left
           ·simp only [Act.put, List.setIfInBounds_toArray, List.set_cons_zero, List.set_cons_succ, i64_w, i32_w]
            rfl
           refine pure_ (i := 2) (N := some 36) (v := ?_) (a' := ?_) #[true, true, true, false, false, false, false, false, false, false] rfl rfl (any_of HT_.out (by kernel_rfl)) (fun _ _ _ h => h) (Or.inl ⟨by rfl, ?_⟩) ?_ ?_
           rotate_left
           ·intro w'
            go_simp
            with_reducible rfl
           rotate_left
           ·simp only [Act.put, List.setIfInBounds_toArray, List.set_cons_zero, List.set_cons_succ, i64_w, i32_w]
            rfl
           refine pure_ (i := 4) (N := some 38) (v := ?_) (a' := ?_) #[true, true, true, false, true, false, false, false, false, false] rfl rfl (any_of HT_.out (by kernel_rfl)) (fun _ _ _ h => h) (Or.inl ⟨by rfl, ?_⟩) ?_ ?_
           rotate_left
           ·intro w'
            go_simp
            with_reducible rfl
           rotate_left
           ·simp only [Act.put, List.setIfInBounds_toArray, List.set_cons_zero, List.set_cons_succ, i64_w, i32_w]
            rfl
           refine pure_ (i := 5) (N := some 39) (v := ?_) (a' := ?_) #[true, true, true, false, true, true, false, false, false, false] rfl rfl (any_of HT_.out (by kernel_rfl)) (fun _ _ _ h => h) (Or.inl ⟨by rfl, ?_⟩) ?_ ?_
           rotate_left
           ·intro w'
            go_simp
            with_reducible rfl
           rotate_left
           ·simp only [Act.put, List.setIfInBounds_toArray, List.set_cons_zero, List.set_cons_succ, i64_w, i32_w]
            rfl
           refine pure_ (i := 6) (N := some 40) (v := ?_) (a' := ?_) #[true, true, true, false, true, true, true, false, false, false] rfl rfl (any_of HT_.out (by kernel_rfl)) (fun _ _ _ h => h) (Or.inl ⟨by rfl, ?_⟩) ?_ ?_
           rotate_left
           ·intro w'
            go_simp
            with_reducible rfl
           rotate_left
           ·simp only [Act.put, List.setIfInBounds_toArray, List.set_cons_zero, List.set_cons_succ, i64_w, i32_w]
            rfl
           refine pure_ (i := 7) (N := some 41) (v := ?_) (a' := ?_) #[true, true, true, false, true, true, true, true, false, false] rfl rfl (any_of HT_.out (by kernel_rfl)) (fun _ _ _ h => h) (Or.inl ⟨by rfl, ?_⟩) ?_ ?_
           rotate_left
           ·intro w'
            go_simp
            with_reducible rfl
           rotate_left
           ·simp only [Act.put, List.setIfInBounds_toArray, List.set_cons_zero, List.set_cons_succ, i64_w, i32_w]
            rfl
           refine take_ (i := 3) (N := some 37) (v := ?_) (a' := ?_) #[true, true, true, true, true, true, true, true, false, false] rfl rfl (take_ofW HT_.out HW_.out (by kernel_rfl)) (fun _ _ _ h => h) (Or.inl ⟨by rfl, ?_⟩) hHeld ?_ ?_
           rotate_left
           ·rintro w' ⟨s0, s1⟩
            go_simp
            with_reducible rfl
           rotate_left
           ·simp only [Act.put, List.setIfInBounds_toArray, List.set_cons_zero, List.set_cons_succ, i64_w, i32_w]
            rfl
           refine take_ (i := 8) (N := some 42) (v := ?_) (a' := ?_) #[true, true, true, true, true, true, true, true, true, false] rfl rfl (take_ofW HT_.out HW_.out (by kernel_rfl)) (fun _ _ _ h => h) (Or.inl ⟨by rfl, ?_⟩) hHeld ?_ ?_
           rotate_left
           ·rintro w' ⟨s0, s1⟩
            go_simp
            with_reducible rfl
           rotate_left
           ·simp only [Act.put, List.setIfInBounds_toArray, List.set_cons_zero, List.set_cons_succ, i64_w, i32_w]
            rfl
           refine pure_ (i := 9) (N := some 43) (v := ?_) (a' := ?_) #[true, true, true, true, true, true, true, true, true, true] rfl rfl (any_of HT_.out (by kernel_rfl)) (fun _ _ _ h => h) (Or.inl ⟨by rfl, ?_⟩) ?_ ?_
           rotate_left
           ·intro w'
            go_simp
            with_reducible rfl
           rotate_left
           ·simp only [Act.put, List.setIfInBounds_toArray, List.set_cons_zero, List.set_cons_succ, i64_w, i32_w]
            rfl
           refine done_ (done_of HT_.out (by kernel_rfl)) ?_
           try go_wp2
           go_ret3
           exact ⟨_, by first | rfl | (simp [errW_none, errW_some] <;> rfl) | (simp only [← hji8]; first | rfl | (simp [errW_none, errW_some] <;> rfl)) | (simp [*, errW_none, errW_some] <;> rfl), by first | exact Kd.S_nil _ _ _ _ _ | exact Kd.N_nil _ _ _ _ _ | exact Kd.V_nil _ _ _ _ _ | exact Kd.Q_nil _ _ _ _ _ | exact Kd.R_nil _ _ _ _ _, by repeat (first | (with_reducible first | exact HB.out | apply below_alloc | apply pw_below_drewN | apply below_drew1) | exact HB.out)⟩
          ·rw [if_neg c11] at H
           have c11b0 : decide ((rd l1 x7_2) ≤ (rd l1 (ji8))) = false := decide_eq_false c11
           clear c11
           have H' := Aside0.mk H
           clear H
           try go_wp2
           have n0_ := Aside0.mk (below_drew1 HB.out)
           clear HB
           have HB := n0_
           clear n0_
           have p186 : 0 ≤ (x7_2 : Int) := of_decide_eq_true (by first | (with_reducible assumption) | assumption)
           have q186 : x7_2 < (l1.length : Int) := of_decide_eq_true (by first | (with_reducible assumption) | assumption)
           obtain ⟨ad186, e186, hx186_0⟩ := Kd.at_int HR1.out x7_2 p186 q186
           have hw186_0 := hx186_0
           cases e186
           replace hx186_0 := (HB.out.cell (World.block_lt_of_cell? w _ hx186_0)).trans hx186_0
           replace p186 := eq_true p186
           replace q186 := eq_true q186
           have p187 : 0 ≤ ((ji8) : Int) := of_decide_eq_true (by first | (with_reducible assumption) | assumption)
           have q187 : (ji8) < (l1.length : Int) := of_decide_eq_true (by first | (with_reducible assumption) | assumption)
           obtain ⟨ad187, e187, hx187_0⟩ := Kd.at_int HR1.out (ji8) p187 q187
           have hw187_0 := hx187_0
           obtain rfl : ad186 = ad187 := (by injection e187)
           replace hx187_0 := (HB.out.cell (World.block_lt_of_cell? w _ hx187_0)).trans hx187_0
           replace p187 := eq_true p187
           replace q187 := eq_true q187
           refine start_ (n := 10) (S := fun w' => w'.cell? (ad186.add (x7_2).toNat) = some (.int .i64 (rd l1 x7_2)) ∧ w'.cell? (ad186.add ((ji8)).toNat) = some (.int .i64 (rd l1 (ji8)))) (ds := []) #[false, false, false, false, false, false, false, false, false, false] (by kernel_rfl) rfl rfl ⟨((HB.out.cell (World.block_lt_of_cell? w _ hw186_0)).trans hw186_0), ((HB.out.cell (World.block_lt_of_cell? w _ hw187_0)).trans hw187_0)⟩ (fun hHeld => ?_); refine with_tabW pianolaref08_Blocks.tab6 pianolaref08_Blocks.bits6 (fun HT_ HW_ => ?_)
           generalize wr.drew = w13 at HB hx186_0 hx187_0 hHeld ⊢
           refine pure_ (i := 0) (N := some 34) (v := ?_) (a' := ?_) #[true, false, false, false, false, false, false, false, false, false] rfl rfl (any_of HT_.out (by kernel_rfl)) (fun _ _ _ h => h) (Or.inl ⟨by rfl, ?_⟩) ?_ ?_
           rotate_left
           ·intro w'
            go_simp
            with_reducible rfl
           rotate_left
           ·simp only [Act.put, List.setIfInBounds_toArray, List.set_cons_zero, List.set_cons_succ, i64_w, i32_w]
            rfl
           refine pure_ (i := 1) (N := some 35) (v := ?_) (a' := ?_) #[true, true, false, false, false, false, false, false, false, false] rfl rfl (any_of HT_.out (by kernel_rfl)) (fun _ _ _ h => h) (Or.inl ⟨by rfl, ?_⟩) ?_ ?_
           rotate_left
           ·intro w'
            go_simp
            with_reducible rfl
           rotate_left
           ·simp only [Act.put, List.setIfInBounds_toArray, List.set_cons_zero, List.set_cons_succ, i64_w, i32_w]
            rfl
           refine pure_ (i := 2) (N := some 36) (v := ?_) (a' := ?_) #[true, true, true, false, false, false, false, false, false, false] rfl rfl (any_of HT_.out (by kernel_rfl)) (fun _ _ _ h => h) (Or.inl ⟨by rfl, ?_⟩) ?_ ?_
           rotate_left
           ·intro w'
            go_simp
            with_reducible rfl
           rotate_left
           ·simp only [Act.put, List.setIfInBounds_toArray, List.set_cons_zero, List.set_cons_succ, i64_w, i32_w]
            rfl
           refine pure_ (i := 4) (N := some 38) (v := ?_) (a' := ?_) #[true, true, true, false, true, false, false, false, false, false] rfl rfl (any_of HT_.out (by kernel_rfl)) (fun _ _ _ h => h) (Or.inl ⟨by rfl, ?_⟩) ?_ ?_
           rotate_left
           ·intro w'
            go_simp
            with_reducible rfl
           rotate_left
           ·simp only [Act.put, List.setIfInBounds_toArray, List.set_cons_zero, List.set_cons_succ, i64_w, i32_w]
            rfl
           refine pure_ (i := 5) (N := some 39) (v := ?_) (a' := ?_) #[true, true, true, false, true, true, false, false, false, false] rfl rfl (any_of HT_.out (by kernel_rfl)) (fun _ _ _ h => h) (Or.inl ⟨by rfl, ?_⟩) ?_ ?_
           rotate_left
           ·intro w'
            go_simp
            with_reducible rfl
           rotate_left
           ·simp only [Act.put, List.setIfInBounds_toArray, List.set_cons_zero, List.set_cons_succ, i64_w, i32_w]
            rfl
           refine pure_ (i := 6) (N := some 40) (v := ?_) (a' := ?_) #[true, true, true, false, true, true, true, false, false, false] rfl rfl (any_of HT_.out (by kernel_rfl)) (fun _ _ _ h => h) (Or.inl ⟨by rfl, ?_⟩) ?_ ?_
           rotate_left
           ·intro w'
            go_simp
            with_reducible rfl
           rotate_left
           ·simp only [Act.put, List.setIfInBounds_toArray, List.set_cons_zero, List.set_cons_succ, i64_w, i32_w]
            rfl
           refine pure_ (i := 7) (N := some 41) (v := ?_) (a' := ?_) #[true, true, true, false, true, true, true, true, false, false] rfl rfl (any_of HT_.out (by kernel_rfl)) (fun _ _ _ h => h) (Or.inl ⟨by rfl, ?_⟩) ?_ ?_
           rotate_left
           ·intro w'
            go_simp
            with_reducible rfl
           rotate_left
           ·simp only [Act.put, List.setIfInBounds_toArray, List.set_cons_zero, List.set_cons_succ, i64_w, i32_w]
            rfl
           refine take_ (i := 3) (N := some 37) (v := ?_) (a' := ?_) #[true, true, true, true, true, true, true, true, false, false] rfl rfl (take_ofW HT_.out HW_.out (by kernel_rfl)) (fun _ _ _ h => h) (Or.inl ⟨by rfl, ?_⟩) hHeld ?_ ?_
           rotate_left
           ·rintro w' ⟨s0, s1⟩
            go_simp
            with_reducible rfl
           rotate_left
           ·simp only [Act.put, List.setIfInBounds_toArray, List.set_cons_zero, List.set_cons_succ, i64_w, i32_w]
            rfl
           refine take_ (i := 8) (N := some 42) (v := ?_) (a' := ?_) #[true, true, true, true, true, true, true, true, true, false] rfl rfl (take_ofW HT_.out HW_.out (by kernel_rfl)) (fun _ _ _ h => h) (Or.inl ⟨by rfl, ?_⟩) hHeld ?_ ?_
           rotate_left
           ·rintro w' ⟨s0, s1⟩
            go_simp
            with_reducible rfl
           rotate_left
           ·simp only [Act.put, List.setIfInBounds_toArray, List.set_cons_zero, List.set_cons_succ, i64_w, i32_w]
            rfl
           refine pure_ (i := 9) (N := some 43) (v := ?_) (a' := ?_) #[true, true, true, true, true, true, true, true, true, true] rfl rfl (any_of HT_.out (by kernel_rfl)) (fun _ _ _ h => h) (Or.inl ⟨by rfl, ?_⟩) ?_ ?_
           rotate_left
           ·intro w'
            go_simp
            with_reducible rfl
           rotate_left
           ·simp only [Act.put, List.setIfInBounds_toArray, List.set_cons_zero, List.set_cons_succ, i64_w, i32_w]
            rfl
           refine done_ (done_of HT_.out (by kernel_rfl)) ?_
           try go_wp2
           go_roundg k2
           case measure => have := HJ2.out; have := HK2.out; omega
           case rel => exact ⟨(wrap64 (x7_2 + 1)), (by first | rfl | (simp; done) | (simp [*]; done)), H', ⟨by have := HJ2.out; have := HK2.out; omega⟩, ⟨by repeat (first | (with_reducible first | exact HB.out | apply below_alloc | apply pw_below_drewN | apply below_drew1) | exact HB.out)⟩⟩
         ·rw [if_neg c10] at H
          exact absurd H (by simp)
        ·rw [if_neg c9] at H
         exact absurd H (by simp)
       ·rw [if_neg c7] at H
        exact absurd H (by simp)
      ·rw [if_neg c6] at H
       have c6b0 : decide (x7_2 < (l1.length : Int)) = false := decide_eq_false c6
       clear c6
       obtain ⟨ji14, hji14⟩ : ∃ j_ : Int, (wrap64 ((l0.length : Int) + 1)) = j_ := ⟨_, rfl⟩
       replace H : (if 0 ≤ (ji14) then (if (ji14 : Int).toNat ≤ 281474976710656 then ((some (List.replicate (ji14 : Int).toNat false : List Bool)).bind fun y188 => (if 0 < (y188.length : Int) then (pianolaref08_Blocks.l1 k2 l0 l1 (y188.set (0 : Int).toNat true) 0) else (none))) else (none)) else (none)) = some (r1, r2, r3) := by first | (rw [hji14] at H; exact H) | (simp only [hji14] at H ⊢; exact H)
       have hji14w : (IntKind.i64.wrap ((l0.length : Int) + 1)) = ji14 := (i64_w _).trans hji14
       by_cases c15 : 0 ≤ (ji14)
       ·rw [if_pos c15] at H
        have c15b0 := eq_true c15
        have c15b1 : decide (0 ≤ (ji14)) = true := decide_eq_true c15
        clear c15
        by_cases c16 : (ji14 : Int).toNat ≤ 281474976710656
        ·rw [if_pos c16] at H
         have c16b0 := eq_true c16
         have c16b1 : decide ((ji14 : Int).toNat ≤ 281474976710656) = true := decide_eq_true c16
         clear c16
         obtain ⟨y188, hy188⟩ : ∃ y_ : List Bool, y_ = (List.replicate (ji14 : Int).toNat false) := ⟨_, rfl⟩
         replace H : (if 0 < (y188.length : Int) then (pianolaref08_Blocks.l1 k2 l0 l1 (y188.set (0 : Int).toNat true) 0) else (none)) = some (r1, r2, r3) := by first | (rw [hy188]; with_reducible exact H) | (have H2_ := (Option.bind_some _ _).symm.trans H; rw [hy188]; with_reducible exact H2_) | (have H2_ := (Option.bind_some _ _).symm.trans H; with_reducible exact H2_) | with_reducible exact H | (rw [hy188]; exact H) | exact H
         have Ny188 := Aside0.mk hy188
         clear hy188
         by_cases c17 : 0 < (y188.length : Int)
         ·rw [if_pos c17] at H
          have c17b0 : decide (0 < (y188.length : Int)) = true := decide_eq_true c17
          have c17b1 : decide (0 < y188.length) = true := decide_eq_true (by omega)
          clear c17
          obtain ⟨y191, hy191⟩ : ∃ y_ : List Bool, y_ = (y188.set (0 : Int).toNat true) := ⟨_, rfl⟩
          replace H : (pianolaref08_Blocks.l1 k2 l0 l1 y191 0) = some (r1, r2, r3) := by first | (rw [hy191]; with_reducible exact H) | (have H2_ := (Option.bind_some _ _).symm.trans H; rw [hy191]; with_reducible exact H2_) | (have H2_ := (Option.bind_some _ _).symm.trans H; with_reducible exact H2_) | with_reducible exact H | (rw [hy191]; exact H) | exact H
          have Ny191 := Aside0.mk hy191
          clear hy191
          have H' := Aside0.mk H
          clear H
          go_wp2_with (first | ((with_reducible refine gate_dst (N := 47) rfl ?_); (try (refine gate_guard (by rfl) ?_; dsimp only)); refine Kd.R_make Kd.bool _ 4 rfl (N := 47) rfl 36 _ _ rfl ji14 rfl rfl Try.underlying36 (.bool false) 1 info4 rfl (by decide) (by omega) false (ok := fun _ => True) (okp := fun _ => True) rfl (fun _ hk => hk) trivial (of_decide_eq_true (by first | (with_reducible assumption) | assumption)) (Nat.le_trans (Nat.mul_le_mul_right _ (of_decide_eq_true (by first | (with_reducible assumption) | assumption) : ji14.toNat ≤ 281474976710656)) (by omega)) (Below.refl _ _) (Nat.le_refl _) ?_; intro v189 w19 ho20 hb hg_ hnew_; clear hg_ hnew_; (first | rw [← Ny188.out] at ho20 | (simp only [Int.reduceToNat] at ho20; rw [← Ny188.out] at ho20)); have n0_ := Aside0.mk (Kd.R_lower ho20 (below_size (by repeat (first | (with_reducible first | exact HB.out | apply below_alloc | apply pw_below_drewN | apply below_drew1) | exact HB.out)))); have n1_ := Aside0.mk (below_step (by repeat (first | (with_reducible first | exact HB.out | apply below_alloc | apply pw_below_drewN | apply below_drew1) | exact HB.out)) hb); clear HB; have HO190 := n0_; have HB := n1_; clear n0_ n1_; clear hb ho20; have p18 : 0 ≤ (0 : Int) := (by omega); have q18 : (0 : Int) < ((y188.length : Int) : Int) := of_decide_eq_true (by first | (with_reducible assumption) | assumption); have qi18 : (0 < y188.length) = True := eq_true (by omega); obtain ⟨go18, co18, eo18, gb18, gl18, cl18, HG18⟩ := Kd.R_form HO190.out (by omega); (first | cases eo18 | (injection eo18 with ea_ en_ ec_; (first | subst ea_ | (injection ea_ with ea_; subst ea_)); subst ec_; clear en_)); have GB18 := Aside0.mk gb18; have GG18 := Aside0.mk HG18; clear gb18 gl18 HG18; obtain ⟨hx18_0, hf18_0⟩ := Kd.R_celln false HO190.out (0 : Int) p18 q18; (try rw [show ((0 : Int)).toNat = 0 from rfl] at hx18_0); (try simp only [Nat.reduceMul, Nat.zero_mul, Nat.zero_add, Nat.reduceAdd] at hx18_0); (try rw [show ((0 : Int)).toNat = 0 from rfl] at hf18_0); (try simp only [Nat.reduceMul, Nat.zero_mul, Nat.zero_add, Nat.reduceAdd] at hf18_0); replace p18 := eq_true p18; replace q18 := eq_true q18; obtain ⟨hy21_, hz21_⟩ := Kd.R_celln false HO190.out (0 : Int) (by omega) (of_decide_eq_true (by first | (with_reducible assumption) | assumption)); (try simp only [Int.reduceToNat, Int.toNat_zero, Int.toNat_ofNat, Nat.reduceMul, Nat.zero_mul, Nat.zero_add] at hy21_ hz21_); (try rw [show ((0 : Int)).toNat = 0 from rfl] at hy21_); (try rw [show ((0 : Int)).toNat = 0 from rfl] at hz21_); have HP21 := Kd.R_putg HO190.out (0 : Int) true) | ((with_reducible refine gate_store (t := 4) (p := 49) rfl ?_); refine store_event (t := 4) (p := 49) (v := ?vo_w22) (w1 := (w19.setCell ⟨go18, (0 : Int).toNat, none⟩ (.bool true))) ?hg ?ho ?hn ?hr ?_; (case ho => rfl); (case hg => rfl); (case hn => rfl); (case hr => first | (go_simp; done) | (go_simp; rfl)); intro w22 hw; have hg : w19.grownBy w22 (some go18) := (by rw [hw]; exact HP21.2); have hp_ : Kd.R Kd.bool 4 w22 w.heap.size (fun _ => True) (.slice (some ⟨go18, 0, none⟩) y188.length co18) y191 := (by rw [hw, Ny191.out]; exact HP21.1); clear HP21; have n0_ := Aside0.mk (hp_); have n1_ := Aside0.mk ((by rw [hw]; exact below_set (HB.out) GB18.out : Below w.heap.size w w22)); clear HO190; clear HB; have HO190 := n0_; have HB := n1_; clear n0_ n1_; clear hg hw hp_))
          go_loopg [9] k2 (fun kq v9 w' => ∃ (x8_3 : List Bool) (x9_3 : Int), v9 = .int .i64 x9_3 ∧ Aside0 (pianolaref08_Blocks.l1 kq l0 l1 x8_3 x9_3 = some (r1, r2, r3)) ∧ Aside0 (kq ≤ k2) ∧ Aside0 (Kd.R Kd.bool 4 w' w.heap.size (fun _ => True) (.slice (some ⟨go18, 0, none⟩) y188.length co18) x8_3) ∧ Aside0 (Below w.heap.size w w'))
          case atStart => exact ⟨(y191), (0), (by first | rfl | (simp; done) | (simp [*]; done)), H', ⟨Nat.le_refl _⟩, ⟨by (with_reducible repeat (first | apply Kd.R_alloc | apply Kd.R_drewN | apply Kd.R_drew)); exact HO190.out⟩, ⟨by repeat (first | (with_reducible first | exact HB.out | apply below_alloc | apply pw_below_drewN | apply below_drew1) | exact HB.out)⟩⟩
          case round => as_aux_lemma =>
           clear H'
           try clear c1
           try clear p1
           try clear q1
           try clear hx1
           try clear qi1
           try clear p2
           try clear c4
           try clear c4b0
           try clear c4b1
           try clear c4b2
           try clear c5
           try clear c6
           try clear c6b0
           try clear p6
           try clear c7
           try clear c7b0
           try clear c9
           try clear c9b0
           try clear c10
           try clear c10b0
           try clear c11
           try clear c11b0
           try clear c15
           try clear c15b0
           try clear c15b1
           try clear c16
           try clear c16b0
           try clear c16b1
           try clear c17
           try clear c17b0
           try clear c17b1
           try clear p18
           try clear q18
           try clear hx18
           try clear qi18
           try clear hf18
           try clear hx186_0
           try clear hx187_0
           try clear hx18_0
           try clear p18
           try clear p186
           try clear p187
           try clear p2
           try clear q18
           try clear q186
           try clear q187
           obtain ⟨x8_3, x9_3, rfl, HA, HK3, HO_8, HB⟩ := hrel
           have hl8_3 := (Kd.R_reads' HO_8.out).1
           rw [hl8_3] at HO_8
           (try simp only [hl8_3])
           cases gk with
           | zero => exact absurd HA.out (by simp [pianolaref08_Blocks.l1])
           | succ k3 =>
            have H := HA.out
            clear HA
            simp only [pianolaref08_Blocks.l1] at H
            by_cases c23 : x9_3 < (l0.length : Int)
            ·rw [if_pos c23] at H
             have c23b0 : decide (x9_3 < (l0.length : Int)) = true := decide_eq_true c23
             clear c23
             have HC24 := Aside0.mk H
             clear H
             go_upto_region 13 with (fail)
             go_cut [69] (fun v69 wc => ∃ (kq : Nat) (x69_23 : Bool), v69 = .bool x69_23 ∧ Aside0 (pianolaref08_Blocks.j3 kq l0 l1 x8_3 x9_3 x69_23 = some (r1, r2, r3)) ∧ Aside0 (kq ≤ k3) ∧ Aside0 (Kd.R Kd.bool 4 wc w.heap.size (fun _ => True) (.slice (some ⟨go18, 0, none⟩) x8_3.length co18) x8_3) ∧ Aside0 (Below w.heap.size w wc))
             case first => as_aux_lemma =>
              have H := HC24.out
              clear HC24
              by_cases c25 : 0 ≤ x9_3
              ·rw [if_pos c25] at H
               have c25b0 : decide (0 ≤ x9_3) = true := decide_eq_true c25
               clear c25
               (first | rw [c25b0] | (simp only [i64_w, i32_w]; rw [c25b0]) | skip)
               by_cases c26 : ((rd_T34 l0 x9_3).f0) = 29
               ·rw [if_pos c26] at H
                have c26b0 : (((rd_T34 l0 x9_3).f0) == 29) = true := beq_iff_eq.mpr c26
                have c26b1 : (((rd_T34 l0 x9_3).f0) != 29) = false := bne_eq_false_iff_eq.mpr c26
                clear c26
                have H' := Aside0.mk H
                clear H
                have p192 : 0 ≤ (x9_3 : Int) := of_decide_eq_true (by first | (with_reducible assumption) | assumption)
                have q192 : x9_3 < (l0.length : Int) := of_decide_eq_true (by first | (with_reducible assumption) | assumption)
                obtain ⟨ad192, e192, hx192_0, hx192_1⟩ := at_T34 HR0.out x9_3 p192 q192
                cases e192
                replace hx192_0 := (HB.out.cell (World.block_lt_of_cell? w _ hx192_0)).trans hx192_0
                replace hx192_1 := (HB.out.cell (World.block_lt_of_cell? w _ hx192_1)).trans hx192_1
                replace p192 := eq_true p192
                replace q192 := eq_true q192
                go_wp2
                go_meet
                case rel => exact ⟨_, (true), (by first | rfl | (simp; done) | (simp [*]; done)), H', ⟨by have := HJ2.out; have := HK2.out; have := HK3.out; first | omega | exact Nat.le_refl _⟩, ⟨by (try simp only [hl8_3]); (with_reducible repeat (first | apply Kd.R_alloc | apply Kd.R_drewN | apply Kd.R_drew)); exact HO_8.out⟩, ⟨by repeat (first | (with_reducible first | exact HB.out | apply below_alloc | apply pw_below_drewN | apply below_drew1) | exact HB.out)⟩⟩
               ·rw [if_neg c26] at H
                have c26b0 : (((rd_T34 l0 x9_3).f0) == 29) = false := beq_eq_false_iff_ne.mpr c26
                have c26b1 : (((rd_T34 l0 x9_3).f0) != 29) = true := bne_iff_ne.mpr c26
                have H' := Aside0.mk H
                clear H
                have p192 : 0 ≤ (x9_3 : Int) := of_decide_eq_true (by first | (with_reducible assumption) | assumption)
                have q192 : x9_3 < (l0.length : Int) := of_decide_eq_true (by first | (with_reducible assumption) | assumption)
                obtain ⟨ad192, e192, hx192_0, hx192_1⟩ := at_T34 HR0.out x9_3 p192 q192
                cases e192
                replace hx192_0 := (HB.out.cell (World.block_lt_of_cell? w _ hx192_0)).trans hx192_0
                replace hx192_1 := (HB.out.cell (World.block_lt_of_cell? w _ hx192_1)).trans hx192_1
                replace p192 := eq_true p192
                replace q192 := eq_true q192
                have p193 : 0 ≤ (x9_3 : Int) := of_decide_eq_true (by first | (with_reducible assumption) | assumption)
                have q193 : x9_3 < (l0.length : Int) := of_decide_eq_true (by first | (with_reducible assumption) | assumption)
                obtain ⟨ad193, e193, hx193_0, hx193_1⟩ := at_T34 HR0.out x9_3 p193 q193
                obtain rfl : ad192 = ad193 := (by injection e193)
                replace hx193_0 := (HB.out.cell (World.block_lt_of_cell? w _ hx193_0)).trans hx193_0
                replace hx193_1 := (HB.out.cell (World.block_lt_of_cell? w _ hx193_1)).trans hx193_1
                replace p193 := eq_true p193
                replace q193 := eq_true q193
                go_wp2
                go_meet
                case rel => exact ⟨_, ((((rd_T34 l0 x9_3).f0) == 30)), (by first | rfl | (simp; done) | (simp [*]; done)), H', ⟨by have := HJ2.out; have := HK2.out; have := HK3.out; first | omega | exact Nat.le_refl _⟩, ⟨by (try simp only [hl8_3]); (with_reducible repeat (first | apply Kd.R_alloc | apply Kd.R_drewN | apply Kd.R_drew)); exact HO_8.out⟩, ⟨by repeat (first | (with_reducible first | exact HB.out | apply below_alloc | apply pw_below_drewN | apply below_drew1) | exact HB.out)⟩⟩
              ·rw [if_neg c25] at H
               exact absurd H (by simp)
             case rest => as_aux_lemma =>
              clear HC24
              try clear c1
              try clear p1
              try clear q1
              try clear hx1
              try clear qi1
              try clear c2
              try clear p2
              try clear c4
              try clear c4b0
              try clear c4b1
              try clear c4b2
              try clear c5
              try clear c6
              try clear c6b0
              try clear p6
              try clear c7
              try clear c7b0
              try clear c9
              try clear c9b0
              try clear c10
              try clear c10b0
              try clear c11
              try clear c11b0
              try clear c15
              try clear c15b0
              try clear c15b1
              try clear c16
              try clear c16b0
              try clear c16b1
              try clear c17
              try clear c17b0
              try clear c17b1
              try clear p18
              try clear q18
              try clear hx18
              try clear qi18
              try clear hf18
              try clear p19
              try clear q19
              try clear hx19
              try clear c23
              try clear c23b0
              try clear c25
              try clear c25b0
              try clear c26
              try clear c26b0
              try clear c26b1
              try clear hx186_0
              try clear hx187_0
              try clear hx18_0
              try clear hx192_0
              try clear hx192_1
              try clear hx193_0
              try clear hx193_1
              try clear p1
              try clear p18
              try clear p186
              try clear p187
              try clear p192
              try clear p193
              try clear p2
              try clear p6
              try clear q1
              try clear q18
              try clear q186
              try clear q187
              try clear q192
              try clear q193
              obtain ⟨kq, x69_23, rfl, HA, HJ23, HO_8, HB⟩ := hcut
              cases kq with
              | zero => exact absurd HA.out (by simp [pianolaref08_Blocks.j3])
              | succ kj23 =>
               have H := HA.out
               clear HA
               simp only [pianolaref08_Blocks.j3] at H
               have HC27 := Aside0.mk H
               clear H
               go_upto_if 69 with (fail)
               go_cut [] (fun wc => ∃ (kq : Nat) (x8_26 : List Bool), Aside0 (pianolaref08_Blocks.j4 kq l0 l1 x8_26 x9_3 = some (r1, r2, r3)) ∧ Aside0 (kq ≤ kj23) ∧ Aside0 (Kd.R Kd.bool 4 wc w.heap.size (fun _ => True) (.slice (some ⟨go18, 0, none⟩) x8_3.length co18) x8_26) ∧ Aside0 (Below w.heap.size w wc))
               case first => as_aux_lemma =>
                have H := HC27.out
                clear HC27
                by_cases c28 : x69_23 = true
                ·subst c28
                 have H1 : (if 0 ≤ x9_3 then (if x9_3 < (l0.length : Int) then ((pianolaref08_find.f kj23 l1 ((rd_T34 l0 x9_3).f1)).bind fun t195 => (if t195 < 0 then (some (([] : List (S30)), 80, x9_3)) else (if 0 ≤ t195 then (if t195 < (x8_3.length : Int) then (pianolaref08_Blocks.j4 kj23 l0 l1 (x8_3.set (t195 : Int).toNat true) x9_3) else (none)) else (none)))) else (none)) else (none)) = some (r1, r2, r3) := by rw [if_pos rfl] at H; exact H
                 clear H
                 have H := H1
                 clear H1
                 by_cases c29 : 0 ≤ x9_3
                 ·rw [if_pos c29] at H
                  have c29b0 : decide (0 ≤ x9_3) = true := decide_eq_true c29
                  clear c29
                  (first | rw [c29b0] | (simp only [i64_w, i32_w]; rw [c29b0]) | skip)
                  by_cases c30 : x9_3 < (l0.length : Int)
                  ·rw [if_pos c30] at H
                   have c30b0 : decide (x9_3 < (l0.length : Int)) = true := decide_eq_true c30
                   clear c30
                   replace H := Option.bind_eq_some_iff.mp H
                   obtain ⟨t195, A310, H⟩ := H
                   replace H : (if t195 < 0 then (some (([] : List (S30)), 80, x9_3)) else (if 0 ≤ t195 then (if t195 < (x8_3.length : Int) then (pianolaref08_Blocks.j4 kj23 l0 l1 (x8_3.set (t195 : Int).toNat true) x9_3) else (none)) else (none))) = some (r1, r2, r3) := H
                   have A31 := Aside0.mk A310
                   clear A310
                   by_cases c32 : t195 < 0
                   ·rw [if_pos c32] at H
                    have c32b0 : decide (t195 < 0) = true := decide_eq_true c32
                    clear c32
                    simp only [Option.some.injEq, Prod.mk.injEq] at H
                    obtain ⟨rfl, rfl, rfl⟩ := H
                    have p194 : 0 ≤ (x9_3 : Int) := of_decide_eq_true (by first | (with_reducible assumption) | assumption)
                    have q194 : x9_3 < (l0.length : Int) := of_decide_eq_true (by first | (with_reducible assumption) | assumption)
                    obtain ⟨ad194, e194, hx194_0, hx194_1⟩ := at_T34 HR0.out x9_3 p194 q194
                    cases e194
                    replace hx194_0 := (HB.out.cell (World.block_lt_of_cell? w _ hx194_0)).trans hx194_0
                    replace hx194_1 := (HB.out.cell (World.block_lt_of_cell? w _ hx194_1)).trans hx194_1
                    replace p194 := eq_true p194
                    replace q194 := eq_true q194
                    go_wp2_with (first | ((with_reducible refine gate_callee (f := 38) rfl ?_); refine goesL_ (some 76) rfl rfl Try.func38 (by kernel_rfl) rfl #[.slice A1 l1.length c1, .int .i64 ((rd_T34 l0 x9_3).f1)] rfl (by (try simp only [List.map_toArray, List.map_cons, List.map_nil]); first | done | rfl | (simp only [List.length_drop, List.length_take]; rfl)) ?_; (with_reducible refine (pianolaref08_find.calls kj23 _ _ l1 ((rd_T34 l0 x9_3).f1) t195 _ ?side1 ?side2 A31.out).mono ?_); (case side1 => repeat (first | exact (Kd.C_below HR1.out HB.out) | (with_reducible refine Kd.C_alloc ?_ _) | (with_reducible refine Kd.C_drewN ?_ _) | (with_reducible refine Kd.C_drew ?_))); (case side2 => exact HC1.out); rintro e w' ⟨rfl, ⟨nd, rfl⟩⟩; refine ⟨_, rfl, ?_⟩))
                    go_ret3
                    exact ⟨_, by first | rfl | (simp [errW_none, errW_some] <;> rfl) | (simp only [← hji14]; first | rfl | (simp [errW_none, errW_some] <;> rfl)) | (simp [*, errW_none, errW_some] <;> rfl), by first | exact Kd.S_nil _ _ _ _ _ | exact Kd.N_nil _ _ _ _ _ | exact Kd.V_nil _ _ _ _ _ | exact Kd.Q_nil _ _ _ _ _ | exact Kd.R_nil _ _ _ _ _, by repeat (first | (with_reducible first | exact HB.out | apply below_alloc | apply pw_below_drewN | apply below_drew1) | exact HB.out)⟩
                   ·rw [if_neg c32] at H
                    have c32b0 : decide (t195 < 0) = false := decide_eq_false c32
                    clear c32
                    by_cases c33 : 0 ≤ t195
                    ·rw [if_pos c33] at H
                     have c33b0 : decide (0 ≤ t195) = true := decide_eq_true c33
                     clear c33
                     by_cases c34 : t195 < (x8_3.length : Int)
                     ·rw [if_pos c34] at H
                      have c34b0 : decide (t195 < (x8_3.length : Int)) = true := decide_eq_true c34
                      clear c34
                      obtain ⟨y196, hy196⟩ : ∃ y_ : List Bool, y_ = (x8_3.set (t195 : Int).toNat true) := ⟨_, rfl⟩
                      replace H : (pianolaref08_Blocks.j4 kj23 l0 l1 y196 x9_3) = some (r1, r2, r3) := by first | (rw [hy196]; with_reducible exact H) | (have H2_ := (Option.bind_some _ _).symm.trans H; rw [hy196]; with_reducible exact H2_) | (have H2_ := (Option.bind_some _ _).symm.trans H; with_reducible exact H2_) | with_reducible exact H | (rw [hy196]; exact H) | exact H
                      have Ny196 := Aside0.mk hy196
                      clear hy196
                      have H' := Aside0.mk H
                      clear H
                      have p194 : 0 ≤ (x9_3 : Int) := of_decide_eq_true (by first | (with_reducible assumption) | assumption)
                      have q194 : x9_3 < (l0.length : Int) := of_decide_eq_true (by first | (with_reducible assumption) | assumption)
                      obtain ⟨ad194, e194, hx194_0, hx194_1⟩ := at_T34 HR0.out x9_3 p194 q194
                      cases e194
                      replace hx194_0 := (HB.out.cell (World.block_lt_of_cell? w _ hx194_0)).trans hx194_0
                      replace hx194_1 := (HB.out.cell (World.block_lt_of_cell? w _ hx194_1)).trans hx194_1
                      replace p194 := eq_true p194
                      replace q194 := eq_true q194
                      go_wp2_with (first | ((with_reducible refine gate_callee (f := 38) rfl ?_); refine goesL_ (some 76) rfl rfl Try.func38 (by kernel_rfl) rfl #[.slice A1 l1.length c1, .int .i64 ((rd_T34 l0 x9_3).f1)] rfl (by (try simp only [List.map_toArray, List.map_cons, List.map_nil]); first | done | rfl | (simp only [List.length_drop, List.length_take]; rfl)) ?_; (with_reducible refine (pianolaref08_find.calls kj23 _ _ l1 ((rd_T34 l0 x9_3).f1) t195 _ ?side1 ?side2 A31.out).mono ?_); (case side1 => repeat (first | exact (Kd.C_below HR1.out HB.out) | (with_reducible refine Kd.C_alloc ?_ _) | (with_reducible refine Kd.C_drewN ?_ _) | (with_reducible refine Kd.C_drew ?_))); (case side2 => exact HC1.out); rintro e w' ⟨rfl, ⟨nd, rfl⟩⟩; refine ⟨_, rfl, ?_⟩; (try (rw [drewN_self wc]; generalize hq_ : World.drewN wc _ = wc; have n0_ : Aside0 (Kd.R Kd.bool 4 wc w.heap.size (fun _ => True) (.slice (some ⟨go18, 0, none⟩) x8_3.length co18) x8_3) := ⟨by rw [← hq_]; exact (by (with_reducible repeat (first | apply Kd.R_alloc | apply Kd.R_drewN | apply Kd.R_drew)); exact HO_8.out)⟩; have n1_ : Aside0 (Below w.heap.size w wc) := ⟨by rw [← hq_]; exact (by repeat (first | (with_reducible first | exact HB.out | apply below_alloc | apply pw_below_drewN | apply below_drew1) | exact HB.out))⟩; clear HO_8 HB hq_; have HO_8 := n0_; have HB := n1_; clear n0_ n1_)); have p35 : 0 ≤ (t195 : Int) := of_decide_eq_true (by first | (with_reducible assumption) | assumption); have q35 : (t195 : Int) < ((x8_3.length : Int) : Int) := of_decide_eq_true (by first | (with_reducible assumption) | assumption); obtain ⟨hx35_0, hf35_0⟩ := Kd.R_celln false HO_8.out (t195 : Int) p35 q35; replace p35 := eq_true p35; replace q35 := eq_true q35; obtain ⟨hy36_, hz36_⟩ := Kd.R_celln false HO_8.out (t195 : Int) (of_decide_eq_true (by first | (with_reducible assumption) | assumption)) (of_decide_eq_true (by first | (with_reducible assumption) | assumption)); have HP36 := Kd.R_putg HO_8.out (t195 : Int) true) | ((with_reducible refine gate_store (t := 4) (p := 82) rfl ?_); refine store_event (t := 4) (p := 82) (v := ?vo_w37) (w1 := (wc.setCell ⟨go18, (t195 : Int).toNat, none⟩ (.bool true))) ?hg ?ho ?hn ?hr ?_; (case ho => rfl); (case hg => rfl); (case hn => rfl); (case hr => first | (go_simp; done) | (go_simp; rfl)); intro w37 hw; have hg : wc.grownBy w37 (some go18) := (by rw [hw]; exact HP36.2); have hp_ : Kd.R Kd.bool 4 w37 w.heap.size (fun _ => True) (.slice (some ⟨go18, 0, none⟩) x8_3.length co18) y196 := (by rw [hw, Ny196.out]; exact HP36.1); clear HP36; have n0_ := Aside0.mk (hp_); have n1_ := Aside0.mk ((by rw [hw]; exact below_set (HB.out) GB18.out : Below w.heap.size w w37)); clear HO_8; clear HB; have HO_8 := n0_; have HB := n1_; clear n0_ n1_; clear hg hw hp_))
                      go_meet
                      case rel => exact ⟨_, (y196), H', ⟨by have := HJ2.out; have := HK2.out; have := HK3.out; have := HJ23.out; first | omega | exact Nat.le_refl _⟩, ⟨by (try simp only [hl8_3]); (with_reducible repeat (first | apply Kd.R_alloc | apply Kd.R_drewN | apply Kd.R_drew)); exact HO_8.out⟩, ⟨by repeat (first | (with_reducible first | exact HB.out | apply below_alloc | apply pw_below_drewN | apply below_drew1) | exact HB.out)⟩⟩
                     ·rw [if_neg c34] at H
                      exact absurd H (by simp)
                    ·rw [if_neg c33] at H
                     exact absurd H (by simp)
                  ·rw [if_neg c30] at H
                   exact absurd H (by simp)
                 ·rw [if_neg c29] at H
                  exact absurd H (by simp)
                ·replace c28 := Bool.eq_false_iff.mpr c28
                 subst c28
                 have H1 : (pianolaref08_Blocks.j4 kj23 l0 l1 x8_3 x9_3) = some (r1, r2, r3) := by rw [if_neg (show ¬ (false = true) by decide)] at H; exact H
                 clear H
                 have H := H1
                 clear H1
                 have H' := Aside0.mk H
                 clear H
                 go_wp2
                 go_meet
                 case rel => exact ⟨_, (x8_3), H', ⟨by have := HJ2.out; have := HK2.out; have := HK3.out; have := HJ23.out; first | omega | exact Nat.le_refl _⟩, ⟨by (try simp only [hl8_3]); (with_reducible repeat (first | apply Kd.R_alloc | apply Kd.R_drewN | apply Kd.R_drew)); exact HO_8.out⟩, ⟨by repeat (first | (with_reducible first | exact HB.out | apply below_alloc | apply pw_below_drewN | apply below_drew1) | exact HB.out)⟩⟩
               case rest => as_aux_lemma =>
                clear HC27
                try clear c1
                try clear p1
                try clear q1
                try clear hx1
                try clear qi1
                try clear c2
                try clear p2
                try clear c3
                try clear p3
                try clear q3
                try clear hx3
                try clear hf3
                try clear c4
                try clear c4b0
                try clear c4b1
                try clear c4b2
                try clear c5
                try clear c6
                try clear c6b0
                try clear p6
                try clear c7
                try clear c7b0
                try clear c9
                try clear c9b0
                try clear c10
                try clear c10b0
                try clear c11
                try clear c11b0
                try clear c15
                try clear c15b0
                try clear c15b1
                try clear c16
                try clear c16b0
                try clear c16b1
                try clear c17
                try clear c17b0
                try clear c17b1
                try clear p18
                try clear q18
                try clear hx18
                try clear qi18
                try clear hf18
                try clear p19
                try clear q19
                try clear hx19
                try clear c23
                try clear c23b0
                try clear c25
                try clear c25b0
                try clear c26
                try clear c26b0
                try clear c26b1
                try clear c28
                try clear c29
                try clear c29b0
                try clear c30
                try clear c30b0
                try clear c32
                try clear c32b0
                try clear c33
                try clear c33b0
                try clear c34
                try clear c34b0
                try clear p35
                try clear q35
                try clear hx35
                try clear hf35
                try clear hx186_0
                try clear hx187_0
                try clear hx18_0
                try clear hx192_0
                try clear hx192_1
                try clear hx193_0
                try clear hx193_1
                try clear hx194_0
                try clear hx194_1
                try clear hx35_0
                try clear p1
                try clear p18
                try clear p186
                try clear p187
                try clear p19
                try clear p192
                try clear p193
                try clear p194
                try clear p2
                try clear p35
                try clear p6
                try clear q1
                try clear q18
                try clear q186
                try clear q187
                try clear q19
                try clear q192
                try clear q193
                try clear q194
                try clear q35
                obtain ⟨kq, x8_26, HA, HJ26, HO_8, HB⟩ := hcut
                have hl8_26 := (Kd.R_reads' HO_8.out).1
                rw [hl8_26] at HO_8
                (try simp only [hl8_26])
                cases kq with
                | zero => exact absurd HA.out (by simp [pianolaref08_Blocks.j4])
                | succ kj26 =>
                 have H := HA.out
                 clear HA
                 simp only [pianolaref08_Blocks.j4] at H
                 by_cases c38 : 0 ≤ x9_3
                 ·rw [if_pos c38] at H
                  have c38b0 : decide (0 ≤ x9_3) = true := decide_eq_true c38
                  clear c38
                  by_cases c39 : x9_3 < (l0.length : Int)
                  ·rw [if_pos c39] at H
                   have c39b0 : decide (x9_3 < (l0.length : Int)) = true := decide_eq_true c39
                   clear c39
                   replace H := Option.bind_eq_some_iff.mp H
                   obtain ⟨t198, A400, H⟩ := H
                   replace H : (if t198 = true then (if 0 ≤ (wrap64 (x9_3 + 1)) then (if (wrap64 (x9_3 + 1)) < (x8_26.length : Int) then (pianolaref08_Blocks.l1 kj26 l0 l1 (x8_26.set ((wrap64 (x9_3 + 1)) : Int).toNat true) (wrap64 (x9_3 + 1))) else (none)) else (none)) else (pianolaref08_Blocks.l1 kj26 l0 l1 x8_26 (wrap64 (x9_3 + 1)))) = some (r1, r2, r3) := H
                   have A40 := Aside0.mk A400
                   clear A400
                   by_cases c41 : t198 = true
                   ·subst c41
                    have H1 : (if 0 ≤ (wrap64 (x9_3 + 1)) then (if (wrap64 (x9_3 + 1)) < (x8_26.length : Int) then (pianolaref08_Blocks.l1 kj26 l0 l1 (x8_26.set ((wrap64 (x9_3 + 1)) : Int).toNat true) (wrap64 (x9_3 + 1))) else (none)) else (none)) = some (r1, r2, r3) := by rw [if_pos rfl] at H; exact H
                    clear H
                    have H := H1
                    clear H1
                    obtain ⟨ji42, hji42⟩ : ∃ j_ : Int, (wrap64 (x9_3 + 1)) = j_ := ⟨_, rfl⟩
                    replace H : (if 0 ≤ (ji42) then (if (ji42) < (x8_26.length : Int) then (pianolaref08_Blocks.l1 kj26 l0 l1 (x8_26.set ((ji42) : Int).toNat true) ji42) else (none)) else (none)) = some (r1, r2, r3) := by first | (rw [hji42] at H; exact H) | (simp only [hji42] at H ⊢; exact H)
                    (try rw [hji42] at A40)
                    have hji42w : (IntKind.i64.wrap (x9_3 + 1)) = ji42 := (i64_w _).trans hji42
                    by_cases c43 : 0 ≤ (ji42)
                    ·rw [if_pos c43] at H
                     have c43b0 : decide (0 ≤ (ji42)) = true := decide_eq_true c43
                     clear c43
                     by_cases c44 : (ji42) < (x8_26.length : Int)
                     ·rw [if_pos c44] at H
                      have c44b0 : decide ((ji42) < (x8_26.length : Int)) = true := decide_eq_true c44
                      clear c44
                      obtain ⟨y199, hy199⟩ : ∃ y_ : List Bool, y_ = (x8_26.set ((ji42) : Int).toNat true) := ⟨_, rfl⟩
                      replace H : (pianolaref08_Blocks.l1 kj26 l0 l1 y199 ji42) = some (r1, r2, r3) := by first | (rw [hy199]; with_reducible exact H) | (have H2_ := (Option.bind_some _ _).symm.trans H; rw [hy199]; with_reducible exact H2_) | (have H2_ := (Option.bind_some _ _).symm.trans H; with_reducible exact H2_) | with_reducible exact H | (rw [hy199]; exact H) | exact H
                      have Ny199 := Aside0.mk hy199
                      clear hy199
                      have H' := Aside0.mk H
                      clear H
                      have p197 : 0 ≤ (x9_3 : Int) := of_decide_eq_true (by first | (with_reducible assumption) | assumption)
                      have q197 : x9_3 < (l0.length : Int) := of_decide_eq_true (by first | (with_reducible assumption) | assumption)
                      obtain ⟨ad197, e197, hx197_0, hx197_1⟩ := at_T34 HR0.out x9_3 p197 q197
                      cases e197
                      replace hx197_0 := (HB.out.cell (World.block_lt_of_cell? w _ hx197_0)).trans hx197_0
                      replace hx197_1 := (HB.out.cell (World.block_lt_of_cell? w _ hx197_1)).trans hx197_1
                      replace p197 := eq_true p197
                      replace q197 := eq_true q197
                      go_wp2_with (first | ((with_reducible refine gate_callee (f := 18) rfl ?_); refine goesL_ (some 88) rfl rfl Try.func18 (by kernel_rfl) rfl #[.int .i64 ((rd_T34 l0 x9_3).f0)] rfl (by (try simp only [List.map_toArray, List.map_cons, List.map_nil]); first | done | rfl | (simp only [List.length_drop, List.length_take]; rfl)) ?_; (with_reducible refine (pianolaref08_Ends.calls ((rd_T34 l0 x9_3).f0) true _ A40.out).mono ?_); rintro e w' ⟨rfl, ⟨nd, rfl⟩⟩; refine ⟨_, rfl, ?_⟩; (try (rw [drewN_self wc]; generalize hq_ : World.drewN wc _ = wc; have n0_ : Aside0 (Kd.R Kd.bool 4 wc w.heap.size (fun _ => True) (.slice (some ⟨go18, 0, none⟩) x8_26.length co18) x8_26) := ⟨by rw [← hq_]; exact (by (with_reducible repeat (first | apply Kd.R_alloc | apply Kd.R_drewN | apply Kd.R_drew)); exact HO_8.out)⟩; have n1_ : Aside0 (Below w.heap.size w wc) := ⟨by rw [← hq_]; exact (by repeat (first | (with_reducible first | exact HB.out | apply below_alloc | apply pw_below_drewN | apply below_drew1) | exact HB.out))⟩; clear HO_8 HB hq_; have HO_8 := n0_; have HB := n1_; clear n0_ n1_)); have p45 : 0 ≤ ((ji42) : Int) := of_decide_eq_true (by first | (with_reducible assumption) | assumption); have q45 : ((ji42) : Int) < ((x8_26.length : Int) : Int) := of_decide_eq_true (by first | (with_reducible assumption) | assumption); obtain ⟨hx45_0, hf45_0⟩ := Kd.R_celln false HO_8.out ((ji42) : Int) p45 q45; replace p45 := eq_true p45; replace q45 := eq_true q45; obtain ⟨hy46_, hz46_⟩ := Kd.R_celln false HO_8.out ((ji42) : Int) (of_decide_eq_true (by first | (with_reducible assumption) | assumption)) (of_decide_eq_true (by first | (with_reducible assumption) | assumption)); have HP46 := Kd.R_putg HO_8.out ((ji42) : Int) true) | ((with_reducible refine gate_store (t := 4) (p := 92) rfl ?_); refine store_event (t := 4) (p := 92) (v := ?vo_w47) (w1 := (wc.setCell ⟨go18, ((ji42) : Int).toNat, none⟩ (.bool true))) ?hg ?ho ?hn ?hr ?_; (case ho => rfl); (case hg => rfl); (case hn => rfl); (case hr => first | (go_simp; done) | (go_simp; rfl)); intro w47 hw; have hg : wc.grownBy w47 (some go18) := (by rw [hw]; exact HP46.2); have hp_ : Kd.R Kd.bool 4 w47 w.heap.size (fun _ => True) (.slice (some ⟨go18, 0, none⟩) x8_26.length co18) y199 := (by rw [hw, Ny199.out]; exact HP46.1); clear HP46; have n0_ := Aside0.mk (hp_); have n1_ := Aside0.mk ((by rw [hw]; exact below_set (HB.out) GB18.out : Below w.heap.size w w47)); clear HO_8; clear HB; have HO_8 := n0_; have HB := n1_; clear n0_ n1_; clear hg hw hp_))
                      (try simp only [← hl8_3, ← hl8_26])
                      go_roundg kj26
                      case measure => have := HJ2.out; have := HK2.out; have := HK3.out; have := HJ23.out; have := HJ26.out; omega
                      case rel => exact ⟨(y199), (ji42), (by first | rfl | (simp; done) | (simp only [← hji42] <;> (first | rfl | simp)) | (simp [*]; done)), H', ⟨by have := HJ2.out; have := HK2.out; have := HK3.out; have := HJ23.out; have := HJ26.out; omega⟩, ⟨by (try simp only [hl8_3]); (try simp only [hl8_26]); (with_reducible repeat (first | apply Kd.R_alloc | apply Kd.R_drewN | apply Kd.R_drew)); exact HO_8.out⟩, ⟨by repeat (first | (with_reducible first | exact HB.out | apply below_alloc | apply pw_below_drewN | apply below_drew1) | exact HB.out)⟩⟩
                     ·rw [if_neg c44] at H
                      exact absurd H (by simp)
                    ·rw [if_neg c43] at H
                     exact absurd H (by simp)
                   ·replace c41 := Bool.eq_false_iff.mpr c41
                    subst c41
                    have H1 : (pianolaref08_Blocks.l1 kj26 l0 l1 x8_26 (wrap64 (x9_3 + 1))) = some (r1, r2, r3) := by rw [if_neg (show ¬ (false = true) by decide)] at H; exact H
                    clear H
                    have H := H1
                    clear H1
                    have H' := Aside0.mk H
                    clear H
                    have p197 : 0 ≤ (x9_3 : Int) := of_decide_eq_true (by first | (with_reducible assumption) | assumption)
                    have q197 : x9_3 < (l0.length : Int) := of_decide_eq_true (by first | (with_reducible assumption) | assumption)
                    obtain ⟨ad197, e197, hx197_0, hx197_1⟩ := at_T34 HR0.out x9_3 p197 q197
                    cases e197
                    replace hx197_0 := (HB.out.cell (World.block_lt_of_cell? w _ hx197_0)).trans hx197_0
                    replace hx197_1 := (HB.out.cell (World.block_lt_of_cell? w _ hx197_1)).trans hx197_1
                    replace p197 := eq_true p197
                    replace q197 := eq_true q197
                    go_wp2_with (first | ((with_reducible refine gate_callee (f := 18) rfl ?_); refine goesL_ (some 88) rfl rfl Try.func18 (by kernel_rfl) rfl #[.int .i64 ((rd_T34 l0 x9_3).f0)] rfl (by (try simp only [List.map_toArray, List.map_cons, List.map_nil]); first | done | rfl | (simp only [List.length_drop, List.length_take]; rfl)) ?_; (with_reducible refine (pianolaref08_Ends.calls ((rd_T34 l0 x9_3).f0) false _ A40.out).mono ?_); rintro e w' ⟨rfl, ⟨nd, rfl⟩⟩; refine ⟨_, rfl, ?_⟩))
                    (try simp only [← hl8_3, ← hl8_26])
                    go_roundg kj26
                    case measure => have := HJ2.out; have := HK2.out; have := HK3.out; have := HJ23.out; have := HJ26.out; omega
                    case rel => exact ⟨(x8_26), (wrap64 (x9_3 + 1)), (by first | rfl | (simp; done) | (simp [*]; done)), H', ⟨by have := HJ2.out; have := HK2.out; have := HK3.out; have := HJ23.out; have := HJ26.out; omega⟩, ⟨by (try simp only [hl8_3]); (try simp only [hl8_26]); (with_reducible repeat (first | apply Kd.R_alloc | apply Kd.R_drewN | apply Kd.R_drew)); exact HO_8.out⟩, ⟨by repeat (first | (with_reducible first | exact HB.out | apply below_alloc | apply pw_below_drewN | apply below_drew1) | exact HB.out)⟩⟩
                  ·rw [if_neg c39] at H
                   exact absurd H (by simp)
                 ·rw [if_neg c38] at H
                  exact absurd H (by simp)
            ·rw [if_neg c23] at H
             have c23b0 : decide (x9_3 < (l0.length : Int)) = false := decide_eq_false c23
             clear c23
             obtain ⟨ji48, hji48⟩ : ∃ j_ : Int, (wrap64 ((l0.length : Int) - 1)) = j_ := ⟨_, rfl⟩
             replace H : (if 0 ≤ (ji48) then (if (ji48) < (l0.length : Int) then (if ((rd_T34 l0 (ji48)).f0) = 29 then (pianolaref08_Blocks.j5 k3 l0 l1 x8_3 false) else (if ((rd_T34 l0 (ji48)).f0) = 32 then (pianolaref08_Blocks.j5 k3 l0 l1 x8_3 false) else (pianolaref08_Blocks.j5 k3 l0 l1 x8_3 (((rd_T34 l0 (ji48)).f0) != 38)))) else (none)) else (none)) = some (r1, r2, r3) := by first | (rw [hji48] at H; exact H) | (simp only [hji48] at H ⊢; exact H)
             have hji48w : (IntKind.i64.wrap ((l0.length : Int) - 1)) = ji48 := (i64_w _).trans hji48
             by_cases c49 : 0 ≤ (ji48)
             ·rw [if_pos c49] at H
              have c49b0 : decide (0 ≤ (ji48)) = true := decide_eq_true c49
              clear c49
              by_cases c50 : (ji48) < (l0.length : Int)
              ·rw [if_pos c50] at H
               have c50b0 : decide ((ji48) < (l0.length : Int)) = true := decide_eq_true c50
               clear c50
               have HC51 := Aside0.mk H
               clear H
               have p200 : 0 ≤ ((ji48) : Int) := of_decide_eq_true (by first | (with_reducible assumption) | assumption)
               have q200 : (ji48) < (l0.length : Int) := of_decide_eq_true (by first | (with_reducible assumption) | assumption)
               obtain ⟨ad200, e200, hx200_0, hx200_1⟩ := at_T34 HR0.out (ji48) p200 q200
               cases e200
               replace hx200_0 := (HB.out.cell (World.block_lt_of_cell? w _ hx200_0)).trans hx200_0
               replace hx200_1 := (HB.out.cell (World.block_lt_of_cell? w _ hx200_1)).trans hx200_1
               replace p200 := eq_true p200
               replace q200 := eq_true q200
               go_upto_region 21 with (fail)
               go_cut [109] (fun v109 wc => ∃ (kq : Nat) (x109_50 : Bool), v109 = .bool x109_50 ∧ Aside0 (pianolaref08_Blocks.j5 kq l0 l1 x8_3 x109_50 = some (r1, r2, r3)) ∧ Aside0 (kq ≤ k3) ∧ Aside0 (Kd.R Kd.bool 4 wc w.heap.size (fun _ => True) (.slice (some ⟨go18, 0, none⟩) x8_3.length co18) x8_3) ∧ Aside0 (Below w.heap.size w wc))
               case first => as_aux_lemma =>
                have H := HC51.out
                clear HC51
                by_cases c52 : ((rd_T34 l0 (ji48)).f0) = 29
                ·rw [if_pos c52] at H
                 have c52b0 : (((rd_T34 l0 (ji48)).f0) == 29) = true := beq_iff_eq.mpr c52
                 have c52b1 : (((rd_T34 l0 (ji48)).f0) != 29) = false := bne_eq_false_iff_eq.mpr c52
                 clear c52
                 (first | rw [c52b0] | (simp only [i64_w, i32_w]; rw [c52b0]) | skip)
                 have H' := Aside0.mk H
                 clear H
                 go_wp2
                 go_meet
                 case rel => exact ⟨_, (false), (by first | rfl | (simp; done) | (simp [*]; done)), H', ⟨by have := HJ2.out; have := HK2.out; have := HK3.out; first | omega | exact Nat.le_refl _⟩, ⟨by (try simp only [hl8_3]); (with_reducible repeat (first | apply Kd.R_alloc | apply Kd.R_drewN | apply Kd.R_drew)); exact HO_8.out⟩, ⟨by repeat (first | (with_reducible first | exact HB.out | apply below_alloc | apply pw_below_drewN | apply below_drew1) | exact HB.out)⟩⟩
                ·rw [if_neg c52] at H
                 have c52b0 : (((rd_T34 l0 (ji48)).f0) == 29) = false := beq_eq_false_iff_ne.mpr c52
                 have c52b1 : (((rd_T34 l0 (ji48)).f0) != 29) = true := bne_iff_ne.mpr c52
                 (first | rw [c52b0] | (simp only [i64_w, i32_w]; rw [c52b0]) | skip)
                 by_cases c53 : ((rd_T34 l0 (ji48)).f0) = 32
                 ·rw [if_pos c53] at H
                  have c53b0 : (((rd_T34 l0 (ji48)).f0) == 32) = true := beq_iff_eq.mpr c53
                  have c53b1 : (((rd_T34 l0 (ji48)).f0) != 32) = false := bne_eq_false_iff_eq.mpr c53
                  clear c53
                  have H' := Aside0.mk H
                  clear H
                  go_wp2
                  go_meet
                  case rel => exact ⟨_, (false), (by first | rfl | (simp; done) | (simp [*]; done)), H', ⟨by have := HJ2.out; have := HK2.out; have := HK3.out; first | omega | exact Nat.le_refl _⟩, ⟨by (try simp only [hl8_3]); (with_reducible repeat (first | apply Kd.R_alloc | apply Kd.R_drewN | apply Kd.R_drew)); exact HO_8.out⟩, ⟨by repeat (first | (with_reducible first | exact HB.out | apply below_alloc | apply pw_below_drewN | apply below_drew1) | exact HB.out)⟩⟩
                 ·rw [if_neg c53] at H
                  have c53b0 : (((rd_T34 l0 (ji48)).f0) == 32) = false := beq_eq_false_iff_ne.mpr c53
                  have c53b1 : (((rd_T34 l0 (ji48)).f0) != 32) = true := bne_iff_ne.mpr c53
                  have H' := Aside0.mk H
                  clear H
                  go_wp2
                  go_meet
                  case rel => exact ⟨_, ((((rd_T34 l0 (ji48)).f0) != 38)), (by first | rfl | (simp; done) | (simp only [← hji48] <;> (first | rfl | simp)) | (simp [*]; done)), H', ⟨by have := HJ2.out; have := HK2.out; have := HK3.out; first | omega | exact Nat.le_refl _⟩, ⟨by (try simp only [hl8_3]); (with_reducible repeat (first | apply Kd.R_alloc | apply Kd.R_drewN | apply Kd.R_drew)); exact HO_8.out⟩, ⟨by repeat (first | (with_reducible first | exact HB.out | apply below_alloc | apply pw_below_drewN | apply below_drew1) | exact HB.out)⟩⟩
               case rest => as_aux_lemma =>
                clear HC51
                try clear c1
                try clear p1
                try clear q1
                try clear hx1
                try clear qi1
                try clear c2
                try clear p2
                try clear q2
                try clear hx2
                try clear c3
                try clear p3
                try clear q3
                try clear hx3
                try clear hf3
                try clear c4
                try clear c4b0
                try clear c4b1
                try clear c4b2
                try clear p4
                try clear q4
                try clear hx4
                try clear hf4
                try clear c5
                try clear c6
                try clear c6b0
                try clear p6
                try clear c7
                try clear c7b0
                try clear c9
                try clear c9b0
                try clear c10
                try clear c10b0
                try clear c11
                try clear c11b0
                try clear c15
                try clear c15b0
                try clear c15b1
                try clear c16
                try clear c16b0
                try clear c16b1
                try clear c17
                try clear c17b0
                try clear c17b1
                try clear c18
                try clear p18
                try clear q18
                try clear hx18
                try clear qi18
                try clear hf18
                try clear p19
                try clear q19
                try clear hx19
                try clear p20
                try clear q20
                try clear hx20
                try clear c23
                try clear c23b0
                try clear c25
                try clear c25b0
                try clear c26
                try clear c26b0
                try clear c26b1
                try clear c28
                try clear c29
                try clear c29b0
                try clear c30
                try clear c30b0
                try clear c32
                try clear c32b0
                try clear c33
                try clear c33b0
                try clear c34
                try clear c34b0
                try clear p35
                try clear q35
                try clear hx35
                try clear hf35
                try clear c38
                try clear c38b0
                try clear c39
                try clear c39b0
                try clear c41
                try clear c43
                try clear c43b0
                try clear c44
                try clear c44b0
                try clear p45
                try clear q45
                try clear hx45
                try clear hf45
                try clear c49
                try clear c49b0
                try clear c50
                try clear c50b0
                try clear c52
                try clear c52b0
                try clear c52b1
                try clear c53
                try clear c53b0
                try clear c53b1
                try clear hx186_0
                try clear hx187_0
                try clear hx18_0
                try clear hx192_0
                try clear hx192_1
                try clear hx193_0
                try clear hx193_1
                try clear hx194_0
                try clear hx194_1
                try clear hx197_0
                try clear hx197_1
                try clear hx200_0
                try clear hx200_1
                try clear hx35_0
                try clear hx45_0
                try clear p1
                try clear p18
                try clear p186
                try clear p187
                try clear p19
                try clear p192
                try clear p193
                try clear p194
                try clear p197
                try clear p2
                try clear p200
                try clear p3
                try clear p35
                try clear p45
                try clear p6
                try clear q1
                try clear q18
                try clear q186
                try clear q187
                try clear q19
                try clear q192
                try clear q193
                try clear q194
                try clear q197
                try clear q200
                try clear q3
                try clear q35
                try clear q45
                obtain ⟨kq, x109_50, rfl, HA, HJ50, HO_8, HB⟩ := hcut
                cases kq with
                | zero => exact absurd HA.out (by simp [pianolaref08_Blocks.j5])
                | succ kj50 =>
                 have H := HA.out
                 clear HA
                 simp only [pianolaref08_Blocks.j5] at H
                 by_cases c54 : x109_50 = true
                 ·subst c54
                  have H1 : (some (([] : List (S30)), 80, wrap64 ((l0.length : Int) - 1))) = some (r1, r2, r3) := by rw [if_pos rfl] at H; exact H
                  clear H
                  have H := H1
                  clear H1
                  simp only [Option.some.injEq, Prod.mk.injEq] at H
                  obtain ⟨rfl, rfl, rfl⟩ := H
                  go_wp2
                  go_ret3
                  exact ⟨_, by first | rfl | (simp [errW_none, errW_some] <;> rfl) | (simp only [← hji14, ← hji48]; first | rfl | (simp [errW_none, errW_some] <;> rfl)) | (simp [*, errW_none, errW_some] <;> rfl), by first | exact Kd.S_nil _ _ _ _ _ | exact Kd.N_nil _ _ _ _ _ | exact Kd.V_nil _ _ _ _ _ | exact Kd.Q_nil _ _ _ _ _ | exact Kd.R_nil _ _ _ _ _, by repeat (first | (with_reducible first | exact HB.out | apply below_alloc | apply pw_below_drewN | apply below_drew1) | exact HB.out)⟩
                 ·replace c54 := Bool.eq_false_iff.mpr c54
                  subst c54
                  have H1 : (pianolaref08_Blocks.l2 kj50 l0 l1 x8_3 ([] : List Int) 0) = some (r1, r2, r3) := by rw [if_neg (show ¬ (false = true) by decide)] at H; exact H
                  clear H
                  have H := H1
                  clear H1
                  have H' := Aside0.mk H
                  clear H
                  go_wp2
                  go_loopg [12, 13] kj50 (fun kq v12 v13 w' => ∃ (x12_5 : List Int) (x13_5 : Int), v13 = .int .i64 x13_5 ∧ Aside0 (pianolaref08_Blocks.l2 kq l0 l1 x8_3 x12_5 x13_5 = some (r1, r2, r3)) ∧ Aside0 (kq ≤ kj50) ∧ Aside0 (Kd.R Kd.bool 4 w' w.heap.size (fun _ => True) (.slice (some ⟨go18, 0, none⟩) x8_3.length co18) x8_3) ∧ Aside0 (Kd.R (Kd.int .i64) 3 w' w.heap.size (fun _ => True) v12 x12_5) ∧ Aside0 (Below w.heap.size w w'))
                  case atStart => exact ⟨(([] : List Int)), (0), (by first | rfl | (simp; done) | (simp [*]; done)), H', ⟨Nat.le_refl _⟩, ⟨by (try simp only [hl8_3]); (with_reducible repeat (first | apply Kd.R_alloc | apply Kd.R_drewN | apply Kd.R_drew)); exact HO_8.out⟩, ⟨by (try simp only [hl8_3]); first | exact Kd.R_nil _ _ _ _ _ | exact Kd.N_nil _ _ _ _ _ | exact Kd.V_nil _ _ _ _ _ | exact Kd.Q_nil _ _ _ _ _ | exact Kd.S_nil _ _ _ _ _⟩, ⟨by repeat (first | (with_reducible first | exact HB.out | apply below_alloc | apply pw_below_drewN | apply below_drew1) | exact HB.out)⟩⟩
                  case round => as_aux_lemma =>
                   clear H'
                   try clear c1
                   try clear p1
                   try clear q1
                   try clear hx1
                   try clear qi1
                   try clear c2
                   try clear p2
                   try clear q2
                   try clear hx2
                   try clear c3
                   try clear p3
                   try clear q3
                   try clear hx3
                   try clear hf3
                   try clear c4
                   try clear c4b0
                   try clear c4b1
                   try clear c4b2
                   try clear p4
                   try clear q4
                   try clear hx4
                   try clear hf4
                   try clear c5
                   try clear c6
                   try clear c6b0
                   try clear p6
                   try clear c7
                   try clear c7b0
                   try clear c9
                   try clear c9b0
                   try clear c10
                   try clear c10b0
                   try clear c11
                   try clear c11b0
                   try clear c15
                   try clear c15b0
                   try clear c15b1
                   try clear c16
                   try clear c16b0
                   try clear c16b1
                   try clear c17
                   try clear c17b0
                   try clear c17b1
                   try clear c18
                   try clear p18
                   try clear q18
                   try clear hx18
                   try clear qi18
                   try clear hf18
                   try clear p19
                   try clear q19
                   try clear hx19
                   try clear p20
                   try clear q20
                   try clear hx20
                   try clear c23
                   try clear c23b0
                   try clear c25
                   try clear c25b0
                   try clear c26
                   try clear c26b0
                   try clear c26b1
                   try clear c28
                   try clear c29
                   try clear c29b0
                   try clear c30
                   try clear c30b0
                   try clear c32
                   try clear c32b0
                   try clear c33
                   try clear c33b0
                   try clear c34
                   try clear c34b0
                   try clear p35
                   try clear q35
                   try clear hx35
                   try clear hf35
                   try clear c38
                   try clear c38b0
                   try clear c39
                   try clear c39b0
                   try clear c41
                   try clear c43
                   try clear c43b0
                   try clear c44
                   try clear c44b0
                   try clear p45
                   try clear q45
                   try clear hx45
                   try clear hf45
                   try clear c49
                   try clear c49b0
                   try clear c50
                   try clear c50b0
                   try clear c52
                   try clear c52b0
                   try clear c52b1
                   try clear c53
                   try clear c53b0
                   try clear c53b1
                   try clear c54
                   try clear hx186_0
                   try clear hx187_0
                   try clear hx18_0
                   try clear hx192_0
                   try clear hx192_1
                   try clear hx193_0
                   try clear hx193_1
                   try clear hx194_0
                   try clear hx194_1
                   try clear hx197_0
                   try clear hx197_1
                   try clear hx200_0
                   try clear hx200_1
                   try clear hx35_0
                   try clear hx45_0
                   try clear p1
                   try clear p18
                   try clear p186
                   try clear p187
                   try clear p19
                   try clear p192
                   try clear p193
                   try clear p194
                   try clear p197
                   try clear p2
                   try clear p20
                   try clear p200
                   try clear p3
                   try clear p35
                   try clear p4
                   try clear p45
                   try clear p6
                   try clear q1
                   try clear q18
                   try clear q186
                   try clear q187
                   try clear q19
                   try clear q192
                   try clear q193
                   try clear q194
                   try clear q197
                   try clear q2
                   try clear q20
                   try clear q200
                   try clear q3
                   try clear q35
                   try clear q4
                   try clear q45
                   obtain ⟨x12_5, x13_5, rfl, HA, HK5, HO_8, HO_12, HB⟩ := hrel
                   cases gk with
                   | zero => exact absurd HA.out (by simp [pianolaref08_Blocks.l2])
                   | succ k5 =>
                    have H := HA.out
                    clear HA
                    simp only [pianolaref08_Blocks.l2] at H
                    by_cases c55 : x13_5 < (l0.length : Int)
                    ·rw [if_pos c55] at H
                     have c55b0 : decide (x13_5 < (l0.length : Int)) = true := decide_eq_true c55
                     clear c55
                     by_cases c56 : 0 ≤ x13_5
                     ·rw [if_pos c56] at H
                      have c56b0 : decide (0 ≤ x13_5) = true := decide_eq_true c56
                      clear c56
                      by_cases c57 : x13_5 < (x8_3.length : Int)
                      ·rw [if_pos c57] at H
                       have c57b0 : decide (x13_5 < (x8_3.length : Int)) = true := decide_eq_true c57
                       clear c57
                       obtain ⟨bq58, hbq58⟩ : ∃ b_ : Bool, b_ = (rdOf false x8_3 x13_5) := ⟨_, rfl⟩
                       replace H : (if bq58 = true then (if x12_5.length < 17592186044416 then (pianolaref08_Blocks.l2 k5 l0 l1 x8_3 (x12_5 ++ [x13_5]) (wrap64 (x13_5 + 1))) else (none)) else (pianolaref08_Blocks.l2 k5 l0 l1 x8_3 x12_5 (wrap64 (x13_5 + 1)))) = some (r1, r2, r3) := by rw [← hbq58] at H; exact H
                       have Nbq58 := Aside0.mk hbq58
                       clear hbq58
                       by_cases c59 : bq58 = true
                       ·subst c59
                        have H1 : (if x12_5.length < 17592186044416 then (pianolaref08_Blocks.l2 k5 l0 l1 x8_3 (x12_5 ++ [x13_5]) (wrap64 (x13_5 + 1))) else (none)) = some (r1, r2, r3) := by rw [if_pos rfl] at H; exact H
                        clear H
                        have H := H1
                        clear H1
                        by_cases c60 : x12_5.length < 17592186044416
                        ·rw [if_pos c60] at H
                         have LMc60 := Aside0.mk c60
                         clear c60
                         obtain ⟨y202, hy202⟩ : ∃ y_ : List Int, y_ = (x12_5 ++ [x13_5]) := ⟨_, rfl⟩
                         replace H : (pianolaref08_Blocks.l2 k5 l0 l1 x8_3 y202 (wrap64 (x13_5 + 1))) = some (r1, r2, r3) := by first | (rw [hy202]; with_reducible exact H) | (have H2_ := (Option.bind_some _ _).symm.trans H; rw [hy202]; with_reducible exact H2_) | (have H2_ := (Option.bind_some _ _).symm.trans H; with_reducible exact H2_) | with_reducible exact H | (rw [hy202]; exact H) | exact H
                         have Ny202 := Aside0.mk hy202
                         clear hy202
                         have H' := Aside0.mk H
                         clear H
                         have p201 : 0 ≤ (x13_5 : Int) := of_decide_eq_true (by first | (with_reducible assumption) | assumption)
                         have q201 : x13_5 < (x8_3.length : Int) := of_decide_eq_true (by first | (with_reducible assumption) | assumption)
                         obtain ⟨ad201, e201, hx201_0⟩ := Kd.at_bool (Kd.R_reads' HO_8.out).2.2 x13_5 p201 q201
                         (try rw [← Nbq58.out] at hx201_0)
                         obtain rfl : (⟨go18, 0, none⟩ : Addr) = ad201 := (by injection e201)
                         (first | simp only [add_plain] at hx201_0 | simp only [add_at] at hx201_0 | simp only [Addr.add, Nat.zero_add] at hx201_0 | skip)
                         replace p201 := eq_true p201
                         replace q201 := eq_true q201
                         go_wp2_with (first | ((with_reducible refine gate_builtin (b := .append) (xs := #[.tmp 123, .tmp 125]) rfl ?_); (try (refine gate_guard (by rfl) ?_; dsimp only)); at_builtin; refine Kd.R_append (Kd.int .i64) (w0 := w) w.heap.size rfl (.tmp 123) (.tmp 125) 23 3 (.int .i64 0) 8 rfl Try.underlying23 info3 rfl (by decide) (by omega) u12 x12_5 x13_5 [.int .i64 x13_5] (fun _ => True) (fun _ => False) rfl rfl ?aP (fun _ hk => hk.elim) ?aF ?aO ?aB ?aS ?aL ?_; (case aP => exact rfl); (case aB => exact (by repeat (first | (with_reducible first | exact HB.out | apply below_alloc | apply pw_below_drewN | apply below_drew1) | exact HB.out))); (case aF => exact (fun _ _ => trivial)); (case aO => exact (by (with_reducible repeat (first | apply Kd.R_alloc | apply Kd.R_drewN | apply Kd.R_drew)); exact HO_12.out)); (case aS => exact (below_size (by repeat (first | (with_reducible first | exact HB.out | apply below_alloc | apply pw_below_drewN | apply below_drew1) | exact HB.out)))); (case aL => have := LMc60.out; omega); intro v203 w61 ho hb hg hat; rw [← Ny202.out] at ho; have n0_ := Aside0.mk (Kd.R_over' (by (with_reducible repeat (first | apply Kd.R_alloc | apply Kd.R_drewN | apply Kd.R_drew)); exact HO_8.out) (Kd.R_typed (by (with_reducible repeat (first | apply Kd.R_alloc | apply Kd.R_drewN | apply Kd.R_drew)); exact HO_12.out)) (by decide) hg); have n1_ := Aside0.mk (hb); have n2_ := Aside0.mk (ho); clear HO_8; clear HB; clear HO_12; have HO_8 := n0_; have HB := n1_; have HO204 := n2_; clear n0_ n1_ n2_; clear ho hb hg hat))
                         go_roundg k5
                         case measure => have := HJ2.out; have := HK2.out; have := HK3.out; have := HJ50.out; have := HK5.out; omega
                         case rel => exact ⟨(y202), (wrap64 (x13_5 + 1)), (by first | rfl | (simp; done) | (simp [*]; done)), H', ⟨by have := HJ2.out; have := HK2.out; have := HK3.out; have := HJ50.out; have := HK5.out; omega⟩, ⟨by (try simp only [hl8_3]); (with_reducible repeat (first | apply Kd.R_alloc | apply Kd.R_drewN | apply Kd.R_drew)); exact HO_8.out⟩, ⟨by (try simp only [hl8_3]); (with_reducible repeat (first | apply Kd.R_alloc | apply Kd.R_drewN | apply Kd.R_drew)); exact HO204.out⟩, ⟨by repeat (first | (with_reducible first | exact HB.out | apply below_alloc | apply pw_below_drewN | apply below_drew1) | exact HB.out)⟩⟩
                        ·rw [if_neg c60] at H
                         exact absurd H (by simp)
                       ·replace c59 := Bool.eq_false_iff.mpr c59
                        subst c59
                        have H1 : (pianolaref08_Blocks.l2 k5 l0 l1 x8_3 x12_5 (wrap64 (x13_5 + 1))) = some (r1, r2, r3) := by rw [if_neg (show ¬ (false = true) by decide)] at H; exact H
                        clear H
                        have H := H1
                        clear H1
                        have H' := Aside0.mk H
                        clear H
                        have p201 : 0 ≤ (x13_5 : Int) := of_decide_eq_true (by first | (with_reducible assumption) | assumption)
                        have q201 : x13_5 < (x8_3.length : Int) := of_decide_eq_true (by first | (with_reducible assumption) | assumption)
                        obtain ⟨ad201, e201, hx201_0⟩ := Kd.at_bool (Kd.R_reads' HO_8.out).2.2 x13_5 p201 q201
                        (try rw [← Nbq58.out] at hx201_0)
                        obtain rfl : (⟨go18, 0, none⟩ : Addr) = ad201 := (by injection e201)
                        (first | simp only [add_plain] at hx201_0 | simp only [add_at] at hx201_0 | simp only [Addr.add, Nat.zero_add] at hx201_0 | skip)
                        replace p201 := eq_true p201
                        replace q201 := eq_true q201
                        go_wp2
                        go_roundg k5
                        case measure => have := HJ2.out; have := HK2.out; have := HK3.out; have := HJ50.out; have := HK5.out; omega
                        case rel => exact ⟨(x12_5), (wrap64 (x13_5 + 1)), (by first | rfl | (simp; done) | (simp [*]; done)), H', ⟨by have := HJ2.out; have := HK2.out; have := HK3.out; have := HJ50.out; have := HK5.out; omega⟩, ⟨by (try simp only [hl8_3]); (with_reducible repeat (first | apply Kd.R_alloc | apply Kd.R_drewN | apply Kd.R_drew)); exact HO_8.out⟩, ⟨by (try simp only [hl8_3]); (with_reducible repeat (first | apply Kd.R_alloc | apply Kd.R_drewN | apply Kd.R_drew)); exact HO_12.out⟩, ⟨by repeat (first | (with_reducible first | exact HB.out | apply below_alloc | apply pw_below_drewN | apply below_drew1) | exact HB.out)⟩⟩
                      ·rw [if_neg c57] at H
                       exact absurd H (by simp)
                     ·rw [if_neg c56] at H
                      exact absurd H (by simp)
                    ·rw [if_neg c55] at H
                     have c55b0 : decide (x13_5 < (l0.length : Int)) = false := decide_eq_false c55
                     clear c55
                     have H' := Aside0.mk H
                     clear H
                     go_wp2
                     go_loopg [14, 15] k5 (fun kq v14 v15 w' => ∃ (x14_6 : List (S30)) (x15_6 : Int), v15 = .int .i64 x15_6 ∧ Aside0 (pianolaref08_Blocks.l3 kq l0 l1 x12_5 x14_6 x15_6 = some (r1, r2, r3)) ∧ Aside0 (kq ≤ k5) ∧ Aside0 (Kd.R (Kd.int .i64) 3 w' w.heap.size (fun _ => True) u12 x12_5) ∧ Aside0 (Kd.S k30 30 w' w.heap.size (fun k_ => some k_ ≠ (u12 : Value).ownBlock) v14 x14_6) ∧ Aside0 (Below w.heap.size w w'))
                     case atStart => exact ⟨(([] : List (S30))), (0), (by first | rfl | (simp; done) | (simp [*]; done)), H', ⟨Nat.le_refl _⟩, ⟨by (try simp only [hl8_3]); (with_reducible repeat (first | apply Kd.R_alloc | apply Kd.R_drewN | apply Kd.R_drew)); exact HO_12.out⟩, ⟨by (try simp only [hl8_3]); first | exact Kd.S_nil _ _ _ _ _ | exact Kd.N_nil _ _ _ _ _ | exact Kd.V_nil _ _ _ _ _ | exact Kd.Q_nil _ _ _ _ _ | exact Kd.R_nil _ _ _ _ _⟩, ⟨by repeat (first | (with_reducible first | exact HB.out | apply below_alloc | apply pw_below_drewN | apply below_drew1) | exact HB.out)⟩⟩
                     case round => as_aux_lemma =>
                      clear H'
                      try clear c1
                      try clear p1
                      try clear q1
                      try clear hx1
                      try clear qi1
                      try clear c2
                      try clear p2
                      try clear q2
                      try clear hx2
                      try clear c3
                      try clear p3
                      try clear q3
                      try clear hx3
                      try clear hf3
                      try clear c4
                      try clear c4b0
                      try clear c4b1
                      try clear c4b2
                      try clear p4
                      try clear q4
                      try clear hx4
                      try clear hf4
                      try clear c5
                      try clear q5
                      try clear c6
                      try clear c6b0
                      try clear p6
                      try clear c7
                      try clear c7b0
                      try clear c9
                      try clear c9b0
                      try clear c10
                      try clear c10b0
                      try clear c11
                      try clear c11b0
                      try clear c15
                      try clear c15b0
                      try clear c15b1
                      try clear c16
                      try clear c16b0
                      try clear c16b1
                      try clear c17
                      try clear c17b0
                      try clear c17b1
                      try clear c18
                      try clear p18
                      try clear q18
                      try clear hx18
                      try clear qi18
                      try clear hf18
                      try clear p19
                      try clear q19
                      try clear hx19
                      try clear p20
                      try clear q20
                      try clear hx20
                      try clear c23
                      try clear c23b0
                      try clear c25
                      try clear c25b0
                      try clear c26
                      try clear c26b0
                      try clear c26b1
                      try clear c28
                      try clear c29
                      try clear c29b0
                      try clear c30
                      try clear c30b0
                      try clear c32
                      try clear c32b0
                      try clear c33
                      try clear c33b0
                      try clear c34
                      try clear c34b0
                      try clear p35
                      try clear q35
                      try clear hx35
                      try clear hf35
                      try clear c38
                      try clear c38b0
                      try clear c39
                      try clear c39b0
                      try clear c41
                      try clear c43
                      try clear c43b0
                      try clear c44
                      try clear c44b0
                      try clear p45
                      try clear q45
                      try clear hx45
                      try clear hf45
                      try clear c49
                      try clear c49b0
                      try clear c50
                      try clear c50b0
                      try clear c52
                      try clear c52b0
                      try clear c52b1
                      try clear c53
                      try clear c53b0
                      try clear c53b1
                      try clear c54
                      try clear c55
                      try clear c55b0
                      try clear c56
                      try clear c56b0
                      try clear c57
                      try clear c57b0
                      try clear q58
                      try clear c59
                      try clear c60
                      try clear hx186_0
                      try clear hx187_0
                      try clear hx18_0
                      try clear hx192_0
                      try clear hx192_1
                      try clear hx193_0
                      try clear hx193_1
                      try clear hx194_0
                      try clear hx194_1
                      try clear hx197_0
                      try clear hx197_1
                      try clear hx200_0
                      try clear hx200_1
                      try clear hx201_0
                      try clear hx35_0
                      try clear hx45_0
                      try clear p1
                      try clear p18
                      try clear p186
                      try clear p187
                      try clear p19
                      try clear p192
                      try clear p193
                      try clear p194
                      try clear p197
                      try clear p2
                      try clear p20
                      try clear p200
                      try clear p201
                      try clear p3
                      try clear p35
                      try clear p4
                      try clear p45
                      try clear p6
                      try clear q1
                      try clear q18
                      try clear q186
                      try clear q187
                      try clear q19
                      try clear q192
                      try clear q193
                      try clear q194
                      try clear q197
                      try clear q2
                      try clear q20
                      try clear q200
                      try clear q201
                      try clear q3
                      try clear q35
                      try clear q4
                      try clear q45
                      obtain ⟨x14_6, x15_6, rfl, HA, HK6, HO_12, HO_14, HB⟩ := hrel
                      cases gk with
                      | zero => exact absurd HA.out (by simp [pianolaref08_Blocks.l3])
                      | succ k6 =>
                       have H := HA.out
                       clear HA
                       simp only [pianolaref08_Blocks.l3] at H
                       by_cases c62 : x15_6 < (x12_5.length : Int)
                       ·rw [if_pos c62] at H
                        have c62b0 : decide (x15_6 < (x12_5.length : Int)) = true := decide_eq_true c62
                        clear c62
                        by_cases c63 : 0 ≤ x15_6
                        ·rw [if_pos c63] at H
                         have c63b0 : decide (0 ≤ x15_6) = true := decide_eq_true c63
                         clear c63
                         have HC64 := Aside0.mk H
                         clear H
                         obtain ⟨Ao65, co65, eo65⟩ := Kd.R_slice HO_12.out
                         subst eo65
                         have p205 : 0 ≤ (x15_6 : Int) := of_decide_eq_true (by first | (with_reducible assumption) | assumption)
                         have q205 : x15_6 < (x12_5.length : Int) := of_decide_eq_true (by first | (with_reducible assumption) | assumption)
                         obtain ⟨ad205, e205, hx205_0⟩ := Kd.at_int (Kd.R_reads' HO_12.out).2.2 x15_6 p205 q205
                         cases e205
                         replace p205 := eq_true p205
                         replace q205 := eq_true q205
                         go_upto_if 144 with (first | ((with_reducible refine gate_dst (N := 16) rfl ?_); (try (refine gate_guard (by rfl) ?_; dsimp only)); refine box_event ?hg (N := 16) ?hd (cs := #[.int .i64 0, .int .i64 0, .slice none 0 0]) (t := 30) ?hr ?_; (case hd => rfl); (case hg => rfl); (case hr => first | (go_simp; done) | (go_simp; rfl)); intro gb206 hg w66 hbox hb; have n0_ := Aside0.mk (Kd.R_below (by (with_reducible repeat (first | apply Kd.R_alloc | apply Kd.R_drewN | apply Kd.R_drew)); exact HO_12.out) hb); have n1_ := Aside0.mk (Kd.S_below (Kd.S_elderB (by (with_reducible repeat (first | apply Kd.S_alloc | apply Kd.S_drewN | apply Kd.S_drew)); exact HO_14.out) gb206 (Nat.le_of_eq hg.symm)) hb); have n2_ := Aside0.mk (below_step (by repeat (first | (with_reducible first | exact HB.out | apply below_alloc | apply pw_below_drewN | apply below_drew1) | exact HB.out)) hb); have n3_ := Aside0.mk (hbox); have n4_ := Aside0.mk ((by rw [hg]; exact (below_size (by repeat (first | (with_reducible first | exact HB.out | apply below_alloc | apply pw_below_drewN | apply below_drew1) | exact HB.out))) : w.heap.size ≤ gb206)); have n5_ := Aside0.mk ((by rw [hg]; exact (below_size (by repeat (first | (with_reducible first | exact HB.out | apply below_alloc | apply pw_below_drewN | apply below_drew1) | exact HB.out))) : w.heap.size ≤ gb206)); clear HO_12; clear HO_14; clear HB; have HO_12 := n0_; have HO_14 := n1_; have HB := n2_; have BK206 := n3_; have GW206 := n4_; have GE206 := n5_; clear n0_ n1_ n2_ n3_ n4_ n5_; clear hb hbox hg; have hcz67_0 : w66.cell? ⟨gb206, 0, none⟩ = some (.int .i64 0) := (blk_cell BK206.out 0).trans rfl; have hcz67_1 : w66.cell? ⟨gb206, 1, none⟩ = some (.int .i64 0) := (blk_cell BK206.out 1).trans rfl; have hcz67_2 : w66.cell? ⟨gb206, 2, none⟩ = some (.slice none 0 0) := (blk_cell BK206.out 2).trans rfl; have hfz67_0 := blk_frozen BK206.out 0; have hfz67_1 := blk_frozen BK206.out 1; have hfz67_2 := blk_frozen BK206.out 2))
                         (try simp only [Act.put, List.setIfInBounds_toArray, List.set_cons_zero, List.set_cons_succ])
                         go_cut [] (fun wc => ∃ (kq : Nat) (x207001_63 : Int), Aside0 (pianolaref08_Blocks.j8 kq l0 l1 x12_5 x14_6 x15_6 (rd x12_5 x15_6) x207001_63 = some (r1, r2, r3)) ∧ Aside0 (kq ≤ k6) ∧ Aside0 (Kd.R (Kd.int .i64) 3 wc w.heap.size (fun _ => True) (.slice (some ad205) x12_5.length co65) x12_5) ∧ Aside0 (Kd.S k30 30 wc w.heap.size (fun k_ => some k_ ≠ ((.slice (some ad205) x12_5.length co65) : Value).ownBlock ∧ k_ ≠ gb206) u14 x14_6) ∧ Aside0 (wc.heap[gb206]? = some (.cells #[.int .i64 (rd x12_5 x15_6), .int .i64 x207001_63, (.slice none 0 0)] 30 (0, 0))) ∧ Aside0 (Below w.heap.size w wc))
                         case first => as_aux_lemma =>
                          have H := HC64.out
                          clear HC64
                          by_cases c68 : (wrap64 (x15_6 + 1)) < (x12_5.length : Int)
                          ·rw [if_pos c68] at H
                           have c68b0 : decide ((wrap64 (x15_6 + 1)) < (x12_5.length : Int)) = true := decide_eq_true c68
                           clear c68
                           (first | rw [c68b0] | (simp only [i64_w, i32_w]; rw [c68b0]) | skip)
                           obtain ⟨ji69, hji69⟩ : ∃ j_ : Int, (wrap64 (x15_6 + 1)) = j_ := ⟨_, rfl⟩
                           replace H : (if 0 ≤ (ji69) then (pianolaref08_Blocks.j8 k6 l0 l1 x12_5 x14_6 x15_6 (rd x12_5 x15_6) (rd x12_5 (ji69))) else (none)) = some (r1, r2, r3) := by first | (rw [hji69] at H; exact H) | (simp only [hji69] at H ⊢; exact H)
                           (try rw [hji69] at c68b0)
                           have hji69w : (IntKind.i64.wrap (x15_6 + 1)) = ji69 := (i64_w _).trans hji69
                           by_cases c70 : 0 ≤ (ji69)
                           ·rw [if_pos c70] at H
                            have c70b0 : decide (0 ≤ (ji69)) = true := decide_eq_true c70
                            clear c70
                            have H' := Aside0.mk H
                            clear H
                            have p207 : 0 ≤ ((ji69) : Int) := of_decide_eq_true (by first | (with_reducible assumption) | assumption)
                            have q207 : (ji69) < (x12_5.length : Int) := of_decide_eq_true (by first | (with_reducible assumption) | assumption)
                            obtain ⟨ad207, e207, hx207_0⟩ := Kd.at_int (Kd.R_reads' HO_12.out).2.2 (ji69) p207 q207
                            obtain rfl : ad205 = ad207 := (by injection e207)
                            have hn207_0 : ad205.block ≠ gb206 := Kd.own_blk (Kd.R_ne HO_12.out BK206.out (by decide))
                            have hn207_1 : ad205.block ≠ gb206 := Kd.own_blk (Kd.R_ne HO_12.out BK206.out (by decide))
                            have hn207_2 : ad205.block ≠ gb206 := Kd.own_blk (Kd.R_ne HO_12.out BK206.out (by decide))
                            replace hx207_0 := (cell_far (p := ⟨gb206, 0, none⟩) (by first | (rw [add_block]; exact hn207_0) | (show (Addr.add _ _).block ≠ _; rw [add_block]; exact hn207_0) | exact hn207_0) (.int .i64 (rd x12_5 x15_6))).trans hx207_0
                            replace hx207_0 := (cell_far (p := ⟨gb206, 1, none⟩) (by first | (rw [add_block]; exact hn207_1) | (show (Addr.add _ _).block ≠ _; rw [add_block]; exact hn207_1) | exact hn207_1) (.int .i64 (l0.length : Int))).trans hx207_0
                            replace hx207_0 := (cell_far (p := ⟨gb206, 2, none⟩) (by first | (rw [add_block]; exact hn207_2) | (show (Addr.add _ _).block ≠ _; rw [add_block]; exact hn207_2) | exact hn207_2) (.slice none 0 0)).trans hx207_0
                            clear hn207_0
                            clear hn207_1
                            clear hn207_2
                            replace p207 := eq_true p207
                            replace q207 := eq_true q207
                            have hcz71_0 : w66.cell? ⟨gb206, 0, none⟩ = some (.int .i64 0) := (blk_cell BK206.out 0).trans rfl
                            have hcz71_1 : w66.cell? ⟨gb206, 1, none⟩ = some (.int .i64 0) := (blk_cell BK206.out 1).trans rfl
                            have hcz71_2 : w66.cell? ⟨gb206, 2, none⟩ = some (.slice none 0 0) := (blk_cell BK206.out 2).trans rfl
                            have hfz71_0 := blk_frozen BK206.out 0
                            have hfz71_1 := blk_frozen BK206.out 1
                            have hfz71_2 := blk_frozen BK206.out 2
                            go_wp2
                            go_meet
                            case rel => exact ⟨_, (rd x12_5 (ji69)), H', ⟨by have := HJ2.out; have := HK2.out; have := HK3.out; have := HJ50.out; have := HK5.out; have := HK6.out; first | omega | exact Nat.le_refl _⟩, ⟨by (try simp only [hl8_3]); (with_reducible repeat (first | apply Kd.R_alloc | apply Kd.R_drewN | apply Kd.R_drew)); exact Kd.R_mono (Kd.R_far (p := ⟨gb206, 1, none⟩) (Kd.R_far (p := ⟨gb206, 2, none⟩) (Kd.R_far (p := ⟨gb206, 1, none⟩) (Kd.R_far (p := ⟨gb206, 0, none⟩) (Kd.R_types HO_12.out BK206.out (by decide)) (fun _ hk => hk.2) (.int .i64 (rd x12_5 x15_6))) (fun _ hk => hk.2) (.int .i64 (l0.length : Int))) (fun _ hk => hk.2) (.slice none 0 0)) (fun _ hk => hk.2) (.int .i64 (rd x12_5 (ji69)))) (fun _ hk => trivial)⟩, ⟨by (try simp only [hl8_3]); (with_reducible repeat (first | apply Kd.S_alloc | apply Kd.S_drewN | apply Kd.S_drew)); exact Kd.S_mono (Kd.S_far (p := ⟨gb206, 1, none⟩) (Kd.S_far (p := ⟨gb206, 2, none⟩) (Kd.S_far (p := ⟨gb206, 1, none⟩) (Kd.S_far (p := ⟨gb206, 0, none⟩) (Kd.S_mono HO_14.out (fun k_ hk => (⟨hk, hk.2⟩ : _ ∧ k_ ≠ gb206))) (fun _ hk => hk.2) (.int .i64 (rd x12_5 x15_6))) (fun _ hk => hk.2) (.int .i64 (l0.length : Int))) (fun _ hk => hk.2) (.slice none 0 0)) (fun _ hk => hk.2) (.int .i64 (rd x12_5 (ji69)))) (fun _ hk => ⟨hk.1.1, hk.1.2⟩)⟩, ⟨by (try simp only [hl8_3]); (with_reducible repeat (first | refine blk_drewN ?_ _ | refine blk_drew ?_ | refine blk_alloc ?_ _)); refine blk_put (cs := #[.int .i64 (rd x12_5 x15_6), .int .i64 (l0.length : Int), .slice none 0 0]) ?_ 1 _ rfl; (with_reducible repeat (first | refine blk_drewN ?_ _ | refine blk_drew ?_ | refine blk_alloc ?_ _)); refine blk_put (cs := #[.int .i64 (rd x12_5 x15_6), .int .i64 (l0.length : Int), .slice none 0 0]) ?_ 2 _ rfl; (with_reducible repeat (first | refine blk_drewN ?_ _ | refine blk_drew ?_ | refine blk_alloc ?_ _)); refine blk_put (cs := #[.int .i64 (rd x12_5 x15_6), .int .i64 0, .slice none 0 0]) ?_ 1 _ rfl; (with_reducible repeat (first | refine blk_drewN ?_ _ | refine blk_drew ?_ | refine blk_alloc ?_ _)); refine blk_put (cs := #[.int .i64 0, .int .i64 0, .slice none 0 0]) ?_ 0 _ rfl; (with_reducible repeat (first | refine blk_drewN ?_ _ | refine blk_drew ?_ | refine blk_alloc ?_ _)); exact BK206.out⟩, ⟨by repeat (first | (with_reducible first | exact HB.out | apply below_alloc | apply pw_below_drewN | apply below_drew1 | refine below_set ?_ GE206.out) | exact HB.out)⟩⟩
                           ·rw [if_neg c70] at H
                            exact absurd H (by simp)
                          ·rw [if_neg c68] at H
                           have c68b0 : decide ((wrap64 (x15_6 + 1)) < (x12_5.length : Int)) = false := decide_eq_false c68
                           clear c68
                           (first | rw [c68b0] | (simp only [i64_w, i32_w]; rw [c68b0]) | skip)
                           have H' := Aside0.mk H
                           clear H
                           go_wp2
                           go_meet
                           case rel => exact ⟨_, ((l0.length : Int)), H', ⟨by have := HJ2.out; have := HK2.out; have := HK3.out; have := HJ50.out; have := HK5.out; have := HK6.out; first | omega | exact Nat.le_refl _⟩, ⟨by (try simp only [hl8_3]); (with_reducible repeat (first | apply Kd.R_alloc | apply Kd.R_drewN | apply Kd.R_drew)); exact Kd.R_mono (Kd.R_far (p := ⟨gb206, 2, none⟩) (Kd.R_far (p := ⟨gb206, 1, none⟩) (Kd.R_far (p := ⟨gb206, 0, none⟩) (Kd.R_types HO_12.out BK206.out (by decide)) (fun _ hk => hk.2) (.int .i64 (rd x12_5 x15_6))) (fun _ hk => hk.2) (.int .i64 (l0.length : Int))) (fun _ hk => hk.2) (.slice none 0 0)) (fun _ hk => trivial)⟩, ⟨by (try simp only [hl8_3]); (with_reducible repeat (first | apply Kd.S_alloc | apply Kd.S_drewN | apply Kd.S_drew)); exact Kd.S_mono (Kd.S_far (p := ⟨gb206, 2, none⟩) (Kd.S_far (p := ⟨gb206, 1, none⟩) (Kd.S_far (p := ⟨gb206, 0, none⟩) (Kd.S_mono HO_14.out (fun k_ hk => (⟨hk, hk.2⟩ : _ ∧ k_ ≠ gb206))) (fun _ hk => hk.2) (.int .i64 (rd x12_5 x15_6))) (fun _ hk => hk.2) (.int .i64 (l0.length : Int))) (fun _ hk => hk.2) (.slice none 0 0)) (fun _ hk => ⟨hk.1.1, hk.1.2⟩)⟩, ⟨by (try simp only [hl8_3]); (with_reducible repeat (first | refine blk_drewN ?_ _ | refine blk_drew ?_ | refine blk_alloc ?_ _)); refine blk_put (cs := #[.int .i64 (rd x12_5 x15_6), .int .i64 (l0.length : Int), .slice none 0 0]) ?_ 2 _ rfl; (with_reducible repeat (first | refine blk_drewN ?_ _ | refine blk_drew ?_ | refine blk_alloc ?_ _)); refine blk_put (cs := #[.int .i64 (rd x12_5 x15_6), .int .i64 0, .slice none 0 0]) ?_ 1 _ rfl; (with_reducible repeat (first | refine blk_drewN ?_ _ | refine blk_drew ?_ | refine blk_alloc ?_ _)); refine blk_put (cs := #[.int .i64 0, .int .i64 0, .slice none 0 0]) ?_ 0 _ rfl; (with_reducible repeat (first | refine blk_drewN ?_ _ | refine blk_drew ?_ | refine blk_alloc ?_ _)); exact BK206.out⟩, ⟨by repeat (first | (with_reducible first | exact HB.out | apply below_alloc | apply pw_below_drewN | apply below_drew1 | refine below_set ?_ GE206.out) | exact HB.out)⟩⟩
                         case rest => as_aux_lemma =>
                          clear HC64
                          try clear c1
                          try clear p1
                          try clear q1
                          try clear hx1
                          try clear qi1
                          try clear c2
                          try clear p2
                          try clear q2
                          try clear hx2
                          try clear c3
                          try clear p3
                          try clear q3
                          try clear hx3
                          try clear hf3
                          try clear c4
                          try clear c4b0
                          try clear c4b1
                          try clear c4b2
                          try clear p4
                          try clear q4
                          try clear hx4
                          try clear hf4
                          try clear c5
                          try clear q5
                          try clear c6
                          try clear c6b0
                          try clear p6
                          try clear c7
                          try clear c7b0
                          try clear c9
                          try clear c9b0
                          try clear c10
                          try clear c10b0
                          try clear c11
                          try clear c11b0
                          try clear c15
                          try clear c15b0
                          try clear c15b1
                          try clear c16
                          try clear c16b0
                          try clear c16b1
                          try clear c17
                          try clear c17b0
                          try clear c17b1
                          try clear c18
                          try clear p18
                          try clear q18
                          try clear hx18
                          try clear qi18
                          try clear hf18
                          try clear p19
                          try clear q19
                          try clear hx19
                          try clear p20
                          try clear q20
                          try clear hx20
                          try clear c23
                          try clear c23b0
                          try clear c25
                          try clear c25b0
                          try clear c26
                          try clear c26b0
                          try clear c26b1
                          try clear c28
                          try clear c29
                          try clear c29b0
                          try clear c30
                          try clear c30b0
                          try clear c32
                          try clear c32b0
                          try clear c33
                          try clear c33b0
                          try clear c34
                          try clear c34b0
                          try clear p35
                          try clear q35
                          try clear hx35
                          try clear hf35
                          try clear c38
                          try clear c38b0
                          try clear c39
                          try clear c39b0
                          try clear c41
                          try clear c43
                          try clear c43b0
                          try clear c44
                          try clear c44b0
                          try clear p45
                          try clear q45
                          try clear hx45
                          try clear hf45
                          try clear c49
                          try clear c49b0
                          try clear c50
                          try clear c50b0
                          try clear c52
                          try clear c52b0
                          try clear c52b1
                          try clear c53
                          try clear c53b0
                          try clear c53b1
                          try clear c54
                          try clear c55
                          try clear c55b0
                          try clear c56
                          try clear c56b0
                          try clear c57
                          try clear c57b0
                          try clear q58
                          try clear c59
                          try clear c60
                          try clear c62
                          try clear c62b0
                          try clear c63
                          try clear c63b0
                          try clear p64
                          try clear c68
                          try clear c68b0
                          try clear c70
                          try clear c70b0
                          try clear hcz67_0
                          try clear hcz67_1
                          try clear hcz67_2
                          try clear hcz71_0
                          try clear hcz71_1
                          try clear hcz71_2
                          try clear hfz67_0
                          try clear hfz67_1
                          try clear hfz67_2
                          try clear hfz71_0
                          try clear hfz71_1
                          try clear hfz71_2
                          try clear hx186_0
                          try clear hx187_0
                          try clear hx18_0
                          try clear hx192_0
                          try clear hx192_1
                          try clear hx193_0
                          try clear hx193_1
                          try clear hx194_0
                          try clear hx194_1
                          try clear hx197_0
                          try clear hx197_1
                          try clear hx200_0
                          try clear hx200_1
                          try clear hx201_0
                          try clear hx205_0
                          try clear hx207_0
                          try clear hx35_0
                          try clear hx45_0
                          try clear p1
                          try clear p18
                          try clear p186
                          try clear p187
                          try clear p19
                          try clear p192
                          try clear p193
                          try clear p194
                          try clear p197
                          try clear p2
                          try clear p20
                          try clear p200
                          try clear p201
                          try clear p205
                          try clear p207
                          try clear p3
                          try clear p35
                          try clear p4
                          try clear p45
                          try clear p6
                          try clear q1
                          try clear q18
                          try clear q186
                          try clear q187
                          try clear q19
                          try clear q192
                          try clear q193
                          try clear q194
                          try clear q197
                          try clear q2
                          try clear q20
                          try clear q200
                          try clear q201
                          try clear q205
                          try clear q207
                          try clear q3
                          try clear q35
                          try clear q4
                          try clear q45
                          try clear q5
                          try clear q58
                          obtain ⟨kq, x207001_63, HA, HJ63, HO_12, HO_14, BK206, HB⟩ := hcut
                          cases kq with
                          | zero => exact absurd HA.out (by simp [pianolaref08_Blocks.j8])
                          | succ kj63 =>
                           have H := HA.out
                           clear HA
                           simp only [pianolaref08_Blocks.j8] at H
                           obtain ⟨ji72, hji72⟩ : ∃ j_ : Int, (wrap64 (x207001_63 - 1)) = j_ := ⟨_, rfl⟩
                           replace H : (if 0 ≤ (ji72) then (if (ji72) < (l0.length : Int) then (if ((rd_T34 l0 (ji72)).f0) = 29 then (pianolaref08_Blocks.j9 kj63 l0 l1 x12_5 x14_6 x15_6 false (rd x12_5 x15_6) x207001_63 ((rd_T34 l0 (ji72)).f0) ((rd_T34 l0 (ji72)).f1)) else (if ((rd_T34 l0 (ji72)).f0) = 32 then (pianolaref08_Blocks.j9 kj63 l0 l1 x12_5 x14_6 x15_6 false (rd x12_5 x15_6) x207001_63 ((rd_T34 l0 (ji72)).f0) ((rd_T34 l0 (ji72)).f1)) else (pianolaref08_Blocks.j9 kj63 l0 l1 x12_5 x14_6 x15_6 (((rd_T34 l0 (ji72)).f0) != 38) (rd x12_5 x15_6) x207001_63 ((rd_T34 l0 (ji72)).f0) ((rd_T34 l0 (ji72)).f1)))) else (none)) else (none)) = some (r1, r2, r3) := by first | (rw [hji72] at H; exact H) | (simp only [hji72] at H ⊢; exact H)
                           have hji72w : (IntKind.i64.wrap (x207001_63 - 1)) = ji72 := (i64_w _).trans hji72
                           by_cases c73 : 0 ≤ (ji72)
                           ·rw [if_pos c73] at H
                            have c73b0 : decide (0 ≤ (ji72)) = true := decide_eq_true c73
                            clear c73
                            by_cases c74 : (ji72) < (l0.length : Int)
                            ·rw [if_pos c74] at H
                             have c74b0 : decide ((ji72) < (l0.length : Int)) = true := decide_eq_true c74
                             clear c74
                             have HC75 := Aside0.mk H
                             clear H
                             have hcz76_0 : wc.cell? ⟨gb206, 0, none⟩ = some (.int .i64 (rd x12_5 x15_6)) := (blk_cell BK206.out 0).trans rfl
                             have hcz76_1 : wc.cell? ⟨gb206, 1, none⟩ = some (.int .i64 x207001_63) := (blk_cell BK206.out 1).trans rfl
                             have hcz76_2 : wc.cell? ⟨gb206, 2, none⟩ = some (.slice none 0 0) := (blk_cell BK206.out 2).trans rfl
                             have hfz76_0 := blk_frozen BK206.out 0
                             have hfz76_1 := blk_frozen BK206.out 1
                             have hfz76_2 := blk_frozen BK206.out 2
                             have p208 : 0 ≤ ((ji72) : Int) := of_decide_eq_true (by first | (with_reducible assumption) | assumption)
                             have q208 : (ji72) < (l0.length : Int) := of_decide_eq_true (by first | (with_reducible assumption) | assumption)
                             obtain ⟨ad208, e208, hx208_0, hx208_1⟩ := at_T34 HR0.out (ji72) p208 q208
                             obtain rfl : ad200 = ad208 := (by injection e208)
                             replace hx208_0 := (HB.out.cell (World.block_lt_of_cell? w _ hx208_0)).trans hx208_0
                             replace hx208_1 := (HB.out.cell (World.block_lt_of_cell? w _ hx208_1)).trans hx208_1
                             replace p208 := eq_true p208
                             replace q208 := eq_true q208
                             go_upto_region 37 with (first | ((with_reducible refine gate_dst (N := 17) rfl ?_); (try (refine gate_guard (by rfl) ?_; dsimp only)); refine box_event ?hg (N := 17) ?hd (cs := #[.int .i64 0, .int .i64 0]) (t := 34) ?hr ?_; (case hd => rfl); (case hg => rfl); (case hr => first | (go_simp; done) | (go_simp; rfl)); intro gb209 hg w77 hbox hb; have n0_ := Aside0.mk (Kd.R_below (by (with_reducible repeat (first | apply Kd.R_alloc | apply Kd.R_drewN | apply Kd.R_drew)); exact HO_12.out) hb); have n1_ := Aside0.mk (Kd.S_below (by (with_reducible repeat (first | apply Kd.S_alloc | apply Kd.S_drewN | apply Kd.S_drew)); exact HO_14.out) hb); have n2_ := Aside0.mk (blk_below (g := gb206) (o := .cells #[.int .i64 (rd x12_5 x15_6), .int .i64 x207001_63, .slice none 0 0] 30 (0, 0)) (by (with_reducible repeat (first | refine blk_drewN ?_ _ | refine blk_drew ?_ | refine blk_alloc ?_ _)); exact BK206.out) hb); have n3_ := Aside0.mk (below_step (by repeat (first | (with_reducible first | exact HB.out | apply below_alloc | apply pw_below_drewN | apply below_drew1 | refine below_set ?_ GE206.out) | exact HB.out)) hb); have n4_ := Aside0.mk (hbox); have n5_ := Aside0.mk ((by rw [hg]; exact (below_size (by repeat (first | (with_reducible first | exact HB.out | apply below_alloc | apply pw_below_drewN | apply below_drew1 | refine below_set ?_ GE206.out) | exact HB.out))) : w.heap.size ≤ gb209)); have n6_ := Aside0.mk ((by rw [hg]; exact (below_size (by repeat (first | (with_reducible first | exact HB.out | apply below_alloc | apply pw_below_drewN | apply below_drew1 | refine below_set ?_ GE206.out) | exact HB.out))) : w.heap.size ≤ gb209)); have n7_ := Aside0.mk ((by rw [hg]; exact Nat.ne_of_lt (blk_lt (g := gb206) (o := .cells #[.int .i64 (rd x12_5 x15_6), .int .i64 x207001_63, .slice none 0 0] 30 (0, 0)) (by (with_reducible repeat (first | refine blk_drewN ?_ _ | refine blk_drew ?_ | refine blk_alloc ?_ _)); exact BK206.out)) : gb206 ≠ gb209)); have n8_ := Aside0.mk ((by rw [hg]; exact Nat.ne_of_gt (blk_lt (g := gb206) (o := .cells #[.int .i64 (rd x12_5 x15_6), .int .i64 x207001_63, .slice none 0 0] 30 (0, 0)) (by (with_reducible repeat (first | refine blk_drewN ?_ _ | refine blk_drew ?_ | refine blk_alloc ?_ _)); exact BK206.out)) : gb209 ≠ gb206)); clear HO_12; clear HO_14; clear BK206; clear HB; have HO_12 := n0_; have HO_14 := n1_; have BK206 := n2_; have HB := n3_; have BK209 := n4_; have GW209 := n5_; have GE209 := n6_; have NB206_209 := n7_; have NB209_206 := n8_; clear n0_ n1_ n2_ n3_ n4_ n5_ n6_ n7_ n8_; clear hb hbox hg; have hnb78 := NB209_206.out; have hnc78 := NB206_209.out; have hcz79_0 : w77.cell? ⟨gb209, 0, none⟩ = some (.int .i64 0) := (blk_cell BK209.out 0).trans rfl; have hcz79_1 : w77.cell? ⟨gb209, 1, none⟩ = some (.int .i64 0) := (blk_cell BK209.out 1).trans rfl; have hfz79_0 := blk_frozen BK209.out 0; have hfz79_1 := blk_frozen BK209.out 1))
                             (try simp only [Act.put, List.setIfInBounds_toArray, List.set_cons_zero, List.set_cons_succ])
                             go_cut [169] (fun v169 wc => ∃ (kq : Nat) (x169_74 : Bool), v169 = .bool x169_74 ∧ Aside0 (pianolaref08_Blocks.j9 kq l0 l1 x12_5 x14_6 x15_6 x169_74 (rd x12_5 x15_6) x207001_63 ((rd_T34 l0 (ji72)).f0) ((rd_T34 l0 (ji72)).f1) = some (r1, r2, r3)) ∧ Aside0 (kq ≤ kj63) ∧ Aside0 (Kd.R (Kd.int .i64) 3 wc w.heap.size (fun _ => True) (.slice (some ad205) x12_5.length co65) x12_5) ∧ Aside0 (Kd.S k30 30 wc w.heap.size (fun k_ => some k_ ≠ ((.slice (some ad205) x12_5.length co65) : Value).ownBlock ∧ k_ ≠ gb206) u14 x14_6) ∧ Aside0 (wc.heap[gb206]? = some (.cells #[.int .i64 (rd x12_5 x15_6), .int .i64 x207001_63, (.slice none 0 0)] 30 (0, 0))) ∧ Aside0 (wc.heap[gb209]? = some (.cells #[.int .i64 ((rd_T34 l0 (ji72)).f0), .int .i64 ((rd_T34 l0 (ji72)).f1)] 34 (0, 0))) ∧ Aside0 (Below w.heap.size w wc))
                             case first => as_aux_lemma =>
                              have H := HC75.out
                              clear HC75
                              by_cases c80 : ((rd_T34 l0 (ji72)).f0) = 29
                              ·rw [if_pos c80] at H
                               have c80b0 : (((rd_T34 l0 (ji72)).f0) == 29) = true := beq_iff_eq.mpr c80
                               have c80b1 : (((rd_T34 l0 (ji72)).f0) != 29) = false := bne_eq_false_iff_eq.mpr c80
                               clear c80
                               (first | rw [c80b0] | (simp only [i64_w, i32_w]; rw [c80b0]) | skip)
                               have H' := Aside0.mk H
                               clear H
                               have hnb81 := NB209_206.out
                               have hnc81 := NB206_209.out
                               have hcz82_0 : w77.cell? ⟨gb209, 0, none⟩ = some (.int .i64 0) := (blk_cell BK209.out 0).trans rfl
                               have hcz82_1 : w77.cell? ⟨gb209, 1, none⟩ = some (.int .i64 0) := (blk_cell BK209.out 1).trans rfl
                               have hfz82_0 := blk_frozen BK209.out 0
                               have hfz82_1 := blk_frozen BK209.out 1
                               go_wp2
                               go_meet
                               case rel => exact ⟨_, (false), (by first | rfl | (simp; done) | (simp [*]; done)), H', ⟨by have := HJ2.out; have := HK2.out; have := HK3.out; have := HJ50.out; have := HK5.out; have := HK6.out; have := HJ63.out; first | omega | exact Nat.le_refl _⟩, ⟨by (try simp only [hl8_3]); (with_reducible repeat (first | apply Kd.R_alloc | apply Kd.R_drewN | apply Kd.R_drew)); exact Kd.R_mono (Kd.R_far (p := ⟨gb209, 1, none⟩) (Kd.R_far (p := ⟨gb209, 0, none⟩) (Kd.R_types HO_12.out BK209.out (by decide)) (fun _ hk => hk.2) (.int .i64 ((rd_T34 l0 (ji72)).f0))) (fun _ hk => hk.2) (.int .i64 ((rd_T34 l0 (ji72)).f1))) (fun _ hk => trivial)⟩, ⟨by (try simp only [hl8_3]); (with_reducible repeat (first | apply Kd.S_alloc | apply Kd.S_drewN | apply Kd.S_drew)); exact Kd.S_mono (Kd.S_far (p := ⟨gb209, 1, none⟩) (Kd.S_far (p := ⟨gb209, 0, none⟩) (Kd.S_types HO_14.out BK209.out (by decide)) (fun _ hk => hk.2) (.int .i64 ((rd_T34 l0 (ji72)).f0))) (fun _ hk => hk.2) (.int .i64 ((rd_T34 l0 (ji72)).f1))) (fun _ hk => ⟨hk.1.1, hk.1.2⟩)⟩, ⟨by (try simp only [hl8_3]); (with_reducible repeat (first | refine blk_drewN ?_ _ | refine blk_drew ?_ | refine blk_alloc ?_ _)); refine blk_far ?_ NB206_209.out _; (with_reducible repeat (first | refine blk_drewN ?_ _ | refine blk_drew ?_ | refine blk_alloc ?_ _)); refine blk_far ?_ NB206_209.out _; (with_reducible repeat (first | refine blk_drewN ?_ _ | refine blk_drew ?_ | refine blk_alloc ?_ _)); exact BK206.out⟩, ⟨by (try simp only [hl8_3]); (with_reducible repeat (first | refine blk_drewN ?_ _ | refine blk_drew ?_ | refine blk_alloc ?_ _)); refine blk_put (cs := #[.int .i64 ((rd_T34 l0 (ji72)).f0), .int .i64 0]) ?_ 1 _ rfl; (with_reducible repeat (first | refine blk_drewN ?_ _ | refine blk_drew ?_ | refine blk_alloc ?_ _)); refine blk_put (cs := #[.int .i64 0, .int .i64 0]) ?_ 0 _ rfl; (with_reducible repeat (first | refine blk_drewN ?_ _ | refine blk_drew ?_ | refine blk_alloc ?_ _)); exact BK209.out⟩, ⟨by repeat (first | (with_reducible first | exact HB.out | apply below_alloc | apply pw_below_drewN | apply below_drew1 | refine below_set ?_ GE206.out | refine below_set ?_ GE209.out) | exact HB.out)⟩⟩
                              ·rw [if_neg c80] at H
                               have c80b0 : (((rd_T34 l0 (ji72)).f0) == 29) = false := beq_eq_false_iff_ne.mpr c80
                               have c80b1 : (((rd_T34 l0 (ji72)).f0) != 29) = true := bne_iff_ne.mpr c80
                               (first | rw [c80b0] | (simp only [i64_w, i32_w]; rw [c80b0]) | skip)
                               by_cases c83 : ((rd_T34 l0 (ji72)).f0) = 32
                               ·rw [if_pos c83] at H
                                have c83b0 : (((rd_T34 l0 (ji72)).f0) == 32) = true := beq_iff_eq.mpr c83
                                have c83b1 : (((rd_T34 l0 (ji72)).f0) != 32) = false := bne_eq_false_iff_eq.mpr c83
                                clear c83
                                have H' := Aside0.mk H
                                clear H
                                have hnb84 := NB209_206.out
                                have hnc84 := NB206_209.out
                                have hcz85_0 : w77.cell? ⟨gb209, 0, none⟩ = some (.int .i64 0) := (blk_cell BK209.out 0).trans rfl
                                have hcz85_1 : w77.cell? ⟨gb209, 1, none⟩ = some (.int .i64 0) := (blk_cell BK209.out 1).trans rfl
                                have hfz85_0 := blk_frozen BK209.out 0
                                have hfz85_1 := blk_frozen BK209.out 1
                                go_wp2
                                go_meet
                                case rel => exact ⟨_, (false), (by first | rfl | (simp; done) | (simp [*]; done)), H', ⟨by have := HJ2.out; have := HK2.out; have := HK3.out; have := HJ50.out; have := HK5.out; have := HK6.out; have := HJ63.out; first | omega | exact Nat.le_refl _⟩, ⟨by (try simp only [hl8_3]); (with_reducible repeat (first | apply Kd.R_alloc | apply Kd.R_drewN | apply Kd.R_drew)); exact Kd.R_mono (Kd.R_far (p := ⟨gb209, 1, none⟩) (Kd.R_far (p := ⟨gb209, 0, none⟩) (Kd.R_types HO_12.out BK209.out (by decide)) (fun _ hk => hk.2) (.int .i64 ((rd_T34 l0 (ji72)).f0))) (fun _ hk => hk.2) (.int .i64 ((rd_T34 l0 (ji72)).f1))) (fun _ hk => trivial)⟩, ⟨by (try simp only [hl8_3]); (with_reducible repeat (first | apply Kd.S_alloc | apply Kd.S_drewN | apply Kd.S_drew)); exact Kd.S_mono (Kd.S_far (p := ⟨gb209, 1, none⟩) (Kd.S_far (p := ⟨gb209, 0, none⟩) (Kd.S_types HO_14.out BK209.out (by decide)) (fun _ hk => hk.2) (.int .i64 ((rd_T34 l0 (ji72)).f0))) (fun _ hk => hk.2) (.int .i64 ((rd_T34 l0 (ji72)).f1))) (fun _ hk => ⟨hk.1.1, hk.1.2⟩)⟩, ⟨by (try simp only [hl8_3]); (with_reducible repeat (first | refine blk_drewN ?_ _ | refine blk_drew ?_ | refine blk_alloc ?_ _)); refine blk_far ?_ NB206_209.out _; (with_reducible repeat (first | refine blk_drewN ?_ _ | refine blk_drew ?_ | refine blk_alloc ?_ _)); refine blk_far ?_ NB206_209.out _; (with_reducible repeat (first | refine blk_drewN ?_ _ | refine blk_drew ?_ | refine blk_alloc ?_ _)); exact BK206.out⟩, ⟨by (try simp only [hl8_3]); (with_reducible repeat (first | refine blk_drewN ?_ _ | refine blk_drew ?_ | refine blk_alloc ?_ _)); refine blk_put (cs := #[.int .i64 ((rd_T34 l0 (ji72)).f0), .int .i64 0]) ?_ 1 _ rfl; (with_reducible repeat (first | refine blk_drewN ?_ _ | refine blk_drew ?_ | refine blk_alloc ?_ _)); refine blk_put (cs := #[.int .i64 0, .int .i64 0]) ?_ 0 _ rfl; (with_reducible repeat (first | refine blk_drewN ?_ _ | refine blk_drew ?_ | refine blk_alloc ?_ _)); exact BK209.out⟩, ⟨by repeat (first | (with_reducible first | exact HB.out | apply below_alloc | apply pw_below_drewN | apply below_drew1 | refine below_set ?_ GE206.out | refine below_set ?_ GE209.out) | exact HB.out)⟩⟩
                               ·rw [if_neg c83] at H
                                have c83b0 : (((rd_T34 l0 (ji72)).f0) == 32) = false := beq_eq_false_iff_ne.mpr c83
                                have c83b1 : (((rd_T34 l0 (ji72)).f0) != 32) = true := bne_iff_ne.mpr c83
                                have H' := Aside0.mk H
                                clear H
                                have hnb86 := NB209_206.out
                                have hnc86 := NB206_209.out
                                have hcz87_0 : w77.cell? ⟨gb209, 0, none⟩ = some (.int .i64 0) := (blk_cell BK209.out 0).trans rfl
                                have hcz87_1 : w77.cell? ⟨gb209, 1, none⟩ = some (.int .i64 0) := (blk_cell BK209.out 1).trans rfl
                                have hfz87_0 := blk_frozen BK209.out 0
                                have hfz87_1 := blk_frozen BK209.out 1
                                go_wp2
                                go_meet
                                case rel => exact ⟨_, ((((rd_T34 l0 (ji72)).f0) != 38)), (by first | rfl | (simp; done) | (simp only [← hji72] <;> (first | rfl | simp)) | (simp [*]; done)), H', ⟨by have := HJ2.out; have := HK2.out; have := HK3.out; have := HJ50.out; have := HK5.out; have := HK6.out; have := HJ63.out; first | omega | exact Nat.le_refl _⟩, ⟨by (try simp only [hl8_3]); (with_reducible repeat (first | apply Kd.R_alloc | apply Kd.R_drewN | apply Kd.R_drew)); exact Kd.R_mono (Kd.R_far (p := ⟨gb209, 1, none⟩) (Kd.R_far (p := ⟨gb209, 0, none⟩) (Kd.R_types HO_12.out BK209.out (by decide)) (fun _ hk => hk.2) (.int .i64 ((rd_T34 l0 (ji72)).f0))) (fun _ hk => hk.2) (.int .i64 ((rd_T34 l0 (ji72)).f1))) (fun _ hk => trivial)⟩, ⟨by (try simp only [hl8_3]); (with_reducible repeat (first | apply Kd.S_alloc | apply Kd.S_drewN | apply Kd.S_drew)); exact Kd.S_mono (Kd.S_far (p := ⟨gb209, 1, none⟩) (Kd.S_far (p := ⟨gb209, 0, none⟩) (Kd.S_types HO_14.out BK209.out (by decide)) (fun _ hk => hk.2) (.int .i64 ((rd_T34 l0 (ji72)).f0))) (fun _ hk => hk.2) (.int .i64 ((rd_T34 l0 (ji72)).f1))) (fun _ hk => ⟨hk.1.1, hk.1.2⟩)⟩, ⟨by (try simp only [hl8_3]); (with_reducible repeat (first | refine blk_drewN ?_ _ | refine blk_drew ?_ | refine blk_alloc ?_ _)); refine blk_far ?_ NB206_209.out _; (with_reducible repeat (first | refine blk_drewN ?_ _ | refine blk_drew ?_ | refine blk_alloc ?_ _)); refine blk_far ?_ NB206_209.out _; (with_reducible repeat (first | refine blk_drewN ?_ _ | refine blk_drew ?_ | refine blk_alloc ?_ _)); exact BK206.out⟩, ⟨by (try simp only [hl8_3]); (with_reducible repeat (first | refine blk_drewN ?_ _ | refine blk_drew ?_ | refine blk_alloc ?_ _)); refine blk_put (cs := #[.int .i64 ((rd_T34 l0 (ji72)).f0), .int .i64 0]) ?_ 1 _ rfl; (with_reducible repeat (first | refine blk_drewN ?_ _ | refine blk_drew ?_ | refine blk_alloc ?_ _)); refine blk_put (cs := #[.int .i64 0, .int .i64 0]) ?_ 0 _ rfl; (with_reducible repeat (first | refine blk_drewN ?_ _ | refine blk_drew ?_ | refine blk_alloc ?_ _)); exact BK209.out⟩, ⟨by repeat (first | (with_reducible first | exact HB.out | apply below_alloc | apply pw_below_drewN | apply below_drew1 | refine below_set ?_ GE206.out | refine below_set ?_ GE209.out) | exact HB.out)⟩⟩
                             case rest => as_aux_lemma =>
                              clear HC75
                              try clear c1
                              try clear p1
                              try clear q1
                              try clear hx1
                              try clear qi1
                              try clear c2
                              try clear p2
                              try clear q2
                              try clear hx2
                              try clear c3
                              try clear p3
                              try clear q3
                              try clear hx3
                              try clear hf3
                              try clear c4
                              try clear c4b0
                              try clear c4b1
                              try clear c4b2
                              try clear p4
                              try clear q4
                              try clear hx4
                              try clear hf4
                              try clear c5
                              try clear q5
                              try clear c6
                              try clear c6b0
                              try clear p6
                              try clear c7
                              try clear c7b0
                              try clear c8
                              try clear c9
                              try clear c9b0
                              try clear c10
                              try clear c10b0
                              try clear c11
                              try clear c11b0
                              try clear c15
                              try clear c15b0
                              try clear c15b1
                              try clear c16
                              try clear c16b0
                              try clear c16b1
                              try clear c17
                              try clear c17b0
                              try clear c17b1
                              try clear c18
                              try clear p18
                              try clear q18
                              try clear hx18
                              try clear qi18
                              try clear hf18
                              try clear p19
                              try clear q19
                              try clear hx19
                              try clear p20
                              try clear q20
                              try clear hx20
                              try clear c23
                              try clear c23b0
                              try clear c25
                              try clear c25b0
                              try clear c26
                              try clear c26b0
                              try clear c26b1
                              try clear c28
                              try clear c29
                              try clear c29b0
                              try clear c30
                              try clear c30b0
                              try clear c32
                              try clear c32b0
                              try clear c33
                              try clear c33b0
                              try clear c34
                              try clear c34b0
                              try clear p35
                              try clear q35
                              try clear hx35
                              try clear hf35
                              try clear c38
                              try clear c38b0
                              try clear c39
                              try clear c39b0
                              try clear c41
                              try clear c43
                              try clear c43b0
                              try clear c44
                              try clear c44b0
                              try clear p45
                              try clear q45
                              try clear hx45
                              try clear hf45
                              try clear c49
                              try clear c49b0
                              try clear c50
                              try clear c50b0
                              try clear c52
                              try clear c52b0
                              try clear c52b1
                              try clear c53
                              try clear c53b0
                              try clear c53b1
                              try clear c54
                              try clear c55
                              try clear c55b0
                              try clear c56
                              try clear c56b0
                              try clear c57
                              try clear c57b0
                              try clear q58
                              try clear c59
                              try clear c60
                              try clear c62
                              try clear c62b0
                              try clear c63
                              try clear c63b0
                              try clear p64
                              try clear c68
                              try clear c68b0
                              try clear c70
                              try clear c70b0
                              try clear c73
                              try clear c73b0
                              try clear c74
                              try clear c74b0
                              try clear c78
                              try clear c80
                              try clear c80b0
                              try clear c80b1
                              try clear c81
                              try clear c83
                              try clear c83b0
                              try clear c83b1
                              try clear c84
                              try clear c86
                              try clear hcz67_0
                              try clear hcz67_1
                              try clear hcz67_2
                              try clear hcz71_0
                              try clear hcz71_1
                              try clear hcz71_2
                              try clear hcz76_0
                              try clear hcz76_1
                              try clear hcz76_2
                              try clear hcz79_0
                              try clear hcz79_1
                              try clear hcz82_0
                              try clear hcz82_1
                              try clear hcz85_0
                              try clear hcz85_1
                              try clear hcz87_0
                              try clear hcz87_1
                              try clear hfz67_0
                              try clear hfz67_1
                              try clear hfz67_2
                              try clear hfz71_0
                              try clear hfz71_1
                              try clear hfz71_2
                              try clear hfz76_0
                              try clear hfz76_1
                              try clear hfz76_2
                              try clear hfz79_0
                              try clear hfz79_1
                              try clear hfz82_0
                              try clear hfz82_1
                              try clear hfz85_0
                              try clear hfz85_1
                              try clear hfz87_0
                              try clear hfz87_1
                              try clear hx186_0
                              try clear hx187_0
                              try clear hx18_0
                              try clear hx192_0
                              try clear hx192_1
                              try clear hx193_0
                              try clear hx193_1
                              try clear hx194_0
                              try clear hx194_1
                              try clear hx197_0
                              try clear hx197_1
                              try clear hx200_0
                              try clear hx200_1
                              try clear hx201_0
                              try clear hx205_0
                              try clear hx207_0
                              try clear hx208_0
                              try clear hx208_1
                              try clear hx35_0
                              try clear hx45_0
                              try clear p1
                              try clear p18
                              try clear p186
                              try clear p187
                              try clear p19
                              try clear p192
                              try clear p193
                              try clear p194
                              try clear p197
                              try clear p2
                              try clear p20
                              try clear p200
                              try clear p201
                              try clear p205
                              try clear p207
                              try clear p208
                              try clear p3
                              try clear p35
                              try clear p4
                              try clear p45
                              try clear p6
                              try clear p64
                              try clear q1
                              try clear q18
                              try clear q186
                              try clear q187
                              try clear q19
                              try clear q192
                              try clear q193
                              try clear q194
                              try clear q197
                              try clear q2
                              try clear q20
                              try clear q200
                              try clear q201
                              try clear q205
                              try clear q207
                              try clear q208
                              try clear q3
                              try clear q35
                              try clear q4
                              try clear q45
                              try clear q5
                              try clear q58
                              obtain ⟨kq, x169_74, rfl, HA, HJ74, HO_12, HO_14, BK206, BK209, HB⟩ := hcut
                              cases kq with
                              | zero => exact absurd HA.out (by simp [pianolaref08_Blocks.j9])
                              | succ kj74 =>
                               have H := HA.out
                               clear HA
                               simp only [pianolaref08_Blocks.j9] at H
                               have HC88 := Aside0.mk H
                               clear H
                               go_upto_if 169 with (fail)
                               go_cut [] (fun wc => ∃ (kq : Nat) (x207002_87 : List Int) (u207002 : Value), Aside0 (pianolaref08_Blocks.j10 kq l0 l1 x12_5 x14_6 x15_6 (rd x12_5 x15_6) x207001_63 x207002_87 ((rd_T34 l0 (ji72)).f0) ((rd_T34 l0 (ji72)).f1) = some (r1, r2, r3)) ∧ Aside0 (kq ≤ kj74) ∧ Aside0 (Kd.R (Kd.int .i64) 3 wc w.heap.size (fun k_ => some k_ ≠ (u207002 : Value).ownBlock) (.slice (some ad205) x12_5.length co65) x12_5) ∧ Aside0 (Kd.S k30 30 wc w.heap.size (fun k_ => some k_ ≠ ((.slice (some ad205) x12_5.length co65) : Value).ownBlock ∧ some k_ ≠ (u207002 : Value).ownBlock ∧ k_ ≠ gb206) u14 x14_6) ∧ Aside0 (Kd.R (Kd.int .i64) 3 wc w.heap.size (fun k_ => some k_ ≠ ((.slice (some ad205) x12_5.length co65) : Value).ownBlock) u207002 x207002_87) ∧ Aside0 (wc.heap[gb206]? = some (.cells #[.int .i64 (rd x12_5 x15_6), .int .i64 x207001_63, u207002] 30 (0, 0))) ∧ Aside0 (wc.heap[gb209]? = some (.cells #[.int .i64 ((rd_T34 l0 (ji72)).f0), .int .i64 ((rd_T34 l0 (ji72)).f1)] 34 (0, 0))) ∧ Aside0 (Below w.heap.size w wc))
                               case first => as_aux_lemma =>
                                have H := HC88.out
                                clear HC88
                                by_cases c89 : x169_74 = true
                                ·subst c89
                                 have H1 : (if ([] : List Int).length < 17592186044416 then (pianolaref08_Blocks.j10 kj74 l0 l1 x12_5 x14_6 x15_6 (rd x12_5 x15_6) x207001_63 (([] : List Int) ++ [wrap64 (x15_6 + 1)]) ((rd_T34 l0 (ji72)).f0) ((rd_T34 l0 (ji72)).f1)) else (none)) = some (r1, r2, r3) := by rw [if_pos rfl] at H; exact H
                                 clear H
                                 have H := H1
                                 clear H1
                                 by_cases c90 : ([] : List Int).length < 17592186044416
                                 ·rw [if_pos c90] at H
                                  have LMc90 := Aside0.mk c90
                                  clear c90
                                  obtain ⟨y210, hy210⟩ : ∃ y_ : List Int, y_ = (([] : List Int) ++ [wrap64 (x15_6 + 1)]) := ⟨_, rfl⟩
                                  replace H : (pianolaref08_Blocks.j10 kj74 l0 l1 x12_5 x14_6 x15_6 (rd x12_5 x15_6) x207001_63 y210 ((rd_T34 l0 (ji72)).f0) ((rd_T34 l0 (ji72)).f1)) = some (r1, r2, r3) := by first | (rw [hy210]; with_reducible exact H) | (have H2_ := (Option.bind_some _ _).symm.trans H; rw [hy210]; with_reducible exact H2_) | (have H2_ := (Option.bind_some _ _).symm.trans H; with_reducible exact H2_) | with_reducible exact H | (rw [hy210]; exact H) | exact H
                                  have Ny210 := Aside0.mk hy210
                                  clear hy210
                                  have H' := Aside0.mk H
                                  clear H
                                  have hnb91 := NB206_209.out
                                  have hnc91 := NB209_206.out
                                  have hcz92_0 : wc.cell? ⟨gb206, 0, none⟩ = some (.int .i64 (rd x12_5 x15_6)) := (blk_cell BK206.out 0).trans rfl
                                  have hcz92_1 : wc.cell? ⟨gb206, 1, none⟩ = some (.int .i64 x207001_63) := (blk_cell BK206.out 1).trans rfl
                                  have hcz92_2 : wc.cell? ⟨gb206, 2, none⟩ = some (.slice none 0 0) := (blk_cell BK206.out 2).trans rfl
                                  have hfz92_0 := blk_frozen BK206.out 0
                                  have hfz92_1 := blk_frozen BK206.out 1
                                  have hfz92_2 := blk_frozen BK206.out 2
                                  go_wp2_with (first | ((with_reducible refine gate_builtin (b := .append) (xs := #[.tmp 171, .tmp 174]) rfl ?_); (try (refine gate_guard (by rfl) ?_; dsimp only)); at_builtin; refine Kd.R_append (Kd.int .i64) (w0 := w) w.heap.size rfl (.tmp 171) (.tmp 174) 23 3 (.int .i64 0) 8 rfl Try.underlying23 info3 rfl (by decide) (by omega) (.slice none 0 0) ([] : List Int) (wrap64 (x15_6 + 1)) [.int .i64 (wrap64 (x15_6 + 1))] (fun k_ => some k_ ≠ (.slice (some ad205) x12_5.length co65 : Value).ownBlock) (fun _ => False) rfl rfl ?aP (fun _ hk => hk.elim) ?aF ?aO ?aB ?aS ?aL ?_; (case aP => exact rfl); (case aB => exact (by repeat (first | (with_reducible first | exact HB.out | apply below_alloc | apply pw_below_drewN | apply below_drew1 | refine below_set ?_ GE206.out | refine below_set ?_ GE209.out) | exact HB.out))); (case aF => exact (fun k_ hk => Kd.fresh' (Kd.R_lt (by (with_reducible repeat (first | apply Kd.R_alloc | apply Kd.R_drewN | apply Kd.R_drew)); exact HO_12.out)) k_ hk)); (case aO => exact ((Kd.R_nil _ _ _ _ (fun k_ => some k_ ≠ (.slice (some ad205) x12_5.length co65 : Value).ownBlock)))); (case aS => exact (below_size (by repeat (first | (with_reducible first | exact HB.out | apply below_alloc | apply pw_below_drewN | apply below_drew1 | refine below_set ?_ GE206.out | refine below_set ?_ GE209.out) | exact HB.out)))); (case aL => have := LMc90.out; omega); intro v211 w93 ho hb hg hat; rw [← Ny210.out] at ho; have n0_ := Aside0.mk (Kd.R_after (Kd.R_apart_nil (by (with_reducible repeat (first | apply Kd.R_alloc | apply Kd.R_drewN | apply Kd.R_drew)); exact HO_12.out)) hg hat); have n1_ := Aside0.mk (Kd.S_after (Kd.S_apart_nil (by (with_reducible repeat (first | apply Kd.S_alloc | apply Kd.S_drewN | apply Kd.S_drew)); exact HO_14.out)) hg hat); have n2_ := Aside0.mk (blk_grown (g := gb206) (o := .cells #[.int .i64 (rd x12_5 x15_6), .int .i64 x207001_63, .slice none 0 0] 30 (0, 0)) (by (with_reducible repeat (first | refine blk_drewN ?_ _ | refine blk_drew ?_ | refine blk_alloc ?_ _)); exact BK206.out) hg (by simp [Value.ownBlock])); have n3_ := Aside0.mk (blk_grown (g := gb209) (o := .cells #[.int .i64 ((rd_T34 l0 (ji72)).f0), .int .i64 ((rd_T34 l0 (ji72)).f1)] 34 (0, 0)) (by (with_reducible repeat (first | refine blk_drewN ?_ _ | refine blk_drew ?_ | refine blk_alloc ?_ _)); exact BK209.out) hg (by simp [Value.ownBlock])); have n4_ := Aside0.mk (hb); have n5_ := Aside0.mk (ho); clear HO_12; clear HO_14; clear BK206; clear BK209; clear HB; have HO_12 := n0_; have HO_14 := n1_; have BK206 := n2_; have BK209 := n3_; have HB := n4_; have HO212 := n5_; clear n0_ n1_ n2_ n3_ n4_ n5_; clear ho hb hg hat; obtain ⟨Ao94, co94, eo94⟩ := Kd.R_slice HO212.out; subst eo94; have hcz95_0 : w93.cell? ⟨gb206, 0, none⟩ = some (.int .i64 (rd x12_5 x15_6)) := (blk_cell BK206.out 0).trans rfl; have hcz95_1 : w93.cell? ⟨gb206, 1, none⟩ = some (.int .i64 x207001_63) := (blk_cell BK206.out 1).trans rfl; have hcz95_2 : w93.cell? ⟨gb206, 2, none⟩ = some (.slice none 0 0) := (blk_cell BK206.out 2).trans rfl; have hfz95_0 := blk_frozen BK206.out 0; have hfz95_1 := blk_frozen BK206.out 1; have hfz95_2 := blk_frozen BK206.out 2))
                                  go_meet
                                  case rel => exact ⟨_, (y210), (.slice Ao94 y210.length co94), H', ⟨by have := HJ2.out; have := HK2.out; have := HK3.out; have := HJ50.out; have := HK5.out; have := HK6.out; have := HJ63.out; have := HJ74.out; first | omega | exact Nat.le_refl _⟩, ⟨by (try simp only [hl8_3]); (with_reducible repeat (first | apply Kd.R_alloc | apply Kd.R_drewN | apply Kd.R_drew)); exact Kd.R_mono (Kd.R_far (p := ⟨gb206, 2, none⟩) (Kd.R_types HO_12.out BK206.out (by decide)) (fun _ hk => hk.2) (.slice Ao94 y210.length co94)) (fun _ hk => hk.1.2)⟩, ⟨by (try simp only [hl8_3]); (with_reducible repeat (first | apply Kd.S_alloc | apply Kd.S_drewN | apply Kd.S_drew)); exact Kd.S_mono (Kd.S_far (p := ⟨gb206, 2, none⟩) (Kd.S_mono HO_14.out (fun k_ hk => (⟨hk, hk.1.2⟩ : _ ∧ k_ ≠ gb206))) (fun _ hk => hk.2) (.slice Ao94 y210.length co94)) (fun _ hk => ⟨hk.1.1.1, ⟨hk.1.2, hk.1.1.2⟩⟩)⟩, ⟨by (try simp only [hl8_3]); (with_reducible repeat (first | apply Kd.R_alloc | apply Kd.R_drewN | apply Kd.R_drew)); exact Kd.R_mono (Kd.R_far (p := ⟨gb206, 2, none⟩) (Kd.R_types HO212.out BK206.out (by decide)) (fun _ hk => hk.2) (.slice Ao94 y210.length co94)) (fun _ hk => hk.1)⟩, ⟨by (try simp only [hl8_3]); (with_reducible repeat (first | refine blk_drewN ?_ _ | refine blk_drew ?_ | refine blk_alloc ?_ _)); refine blk_put (cs := #[.int .i64 (rd x12_5 x15_6), .int .i64 x207001_63, .slice none 0 0]) ?_ 2 _ rfl; (with_reducible repeat (first | refine blk_drewN ?_ _ | refine blk_drew ?_ | refine blk_alloc ?_ _)); exact BK206.out⟩, ⟨by (try simp only [hl8_3]); (with_reducible repeat (first | refine blk_drewN ?_ _ | refine blk_drew ?_ | refine blk_alloc ?_ _)); refine blk_far ?_ NB209_206.out _; (with_reducible repeat (first | refine blk_drewN ?_ _ | refine blk_drew ?_ | refine blk_alloc ?_ _)); exact BK209.out⟩, ⟨by repeat (first | (with_reducible first | exact HB.out | apply below_alloc | apply pw_below_drewN | apply below_drew1 | refine below_set ?_ GE206.out | refine below_set ?_ GE209.out) | exact HB.out)⟩⟩
                                 ·rw [if_neg c90] at H
                                  exact absurd H (by simp)
                                ·replace c89 := Bool.eq_false_iff.mpr c89
                                 subst c89
                                 have H1 : (pianolaref08_Blocks.j10 kj74 l0 l1 x12_5 x14_6 x15_6 (rd x12_5 x15_6) x207001_63 ([] : List Int) ((rd_T34 l0 (ji72)).f0) ((rd_T34 l0 (ji72)).f1)) = some (r1, r2, r3) := by rw [if_neg (show ¬ (false = true) by decide)] at H; exact H
                                 clear H
                                 have H := H1
                                 clear H1
                                 have H' := Aside0.mk H
                                 clear H
                                 go_wp2
                                 go_meet
                                 case rel => exact ⟨_, (([] : List Int)), (.slice none 0 0), H', ⟨by have := HJ2.out; have := HK2.out; have := HK3.out; have := HJ50.out; have := HK5.out; have := HK6.out; have := HJ63.out; have := HJ74.out; first | omega | exact Nat.le_refl _⟩, ⟨by (try simp only [hl8_3]); (with_reducible repeat (first | apply Kd.R_alloc | apply Kd.R_drewN | apply Kd.R_drew)); exact Kd.R_mono HO_12.out (fun _ hk => (by simp [Value.ownBlock]))⟩, ⟨by (try simp only [hl8_3]); (with_reducible repeat (first | apply Kd.S_alloc | apply Kd.S_drewN | apply Kd.S_drew)); exact Kd.S_mono HO_14.out (fun _ hk => ⟨hk.1, ⟨(by simp [Value.ownBlock]), hk.2⟩⟩)⟩, ⟨by (try simp only [hl8_3]); first | exact Kd.R_nil _ _ _ _ _ | exact Kd.N_nil _ _ _ _ _ | exact Kd.V_nil _ _ _ _ _ | exact Kd.Q_nil _ _ _ _ _ | exact Kd.S_nil _ _ _ _ _⟩, ⟨by (try simp only [hl8_3]); (with_reducible repeat (first | refine blk_drewN ?_ _ | refine blk_drew ?_ | refine blk_alloc ?_ _)); exact BK206.out⟩, ⟨by (try simp only [hl8_3]); (with_reducible repeat (first | refine blk_drewN ?_ _ | refine blk_drew ?_ | refine blk_alloc ?_ _)); exact BK209.out⟩, ⟨by repeat (first | (with_reducible first | exact HB.out | apply below_alloc | apply pw_below_drewN | apply below_drew1 | refine below_set ?_ GE206.out | refine below_set ?_ GE209.out) | exact HB.out)⟩⟩
                               case rest => as_aux_lemma =>
                                clear HC88
                                try clear c1
                                try clear p1
                                try clear q1
                                try clear hx1
                                try clear qi1
                                try clear c2
                                try clear p2
                                try clear q2
                                try clear hx2
                                try clear c3
                                try clear p3
                                try clear q3
                                try clear hx3
                                try clear hf3
                                try clear c4
                                try clear c4b0
                                try clear c4b1
                                try clear c4b2
                                try clear p4
                                try clear q4
                                try clear hx4
                                try clear hf4
                                try clear c5
                                try clear q5
                                try clear c6
                                try clear c6b0
                                try clear p6
                                try clear c7
                                try clear c7b0
                                try clear c8
                                try clear c9
                                try clear c9b0
                                try clear c10
                                try clear c10b0
                                try clear c11
                                try clear c11b0
                                try clear c15
                                try clear c15b0
                                try clear c15b1
                                try clear c16
                                try clear c16b0
                                try clear c16b1
                                try clear c17
                                try clear c17b0
                                try clear c17b1
                                try clear c18
                                try clear p18
                                try clear q18
                                try clear hx18
                                try clear qi18
                                try clear hf18
                                try clear p19
                                try clear q19
                                try clear hx19
                                try clear p20
                                try clear q20
                                try clear hx20
                                try clear c23
                                try clear c23b0
                                try clear c25
                                try clear c25b0
                                try clear c26
                                try clear c26b0
                                try clear c26b1
                                try clear c28
                                try clear c29
                                try clear c29b0
                                try clear c30
                                try clear c30b0
                                try clear c32
                                try clear c32b0
                                try clear c33
                                try clear c33b0
                                try clear c34
                                try clear c34b0
                                try clear p35
                                try clear q35
                                try clear hx35
                                try clear hf35
                                try clear c38
                                try clear c38b0
                                try clear c39
                                try clear c39b0
                                try clear c41
                                try clear c43
                                try clear c43b0
                                try clear c44
                                try clear c44b0
                                try clear p45
                                try clear q45
                                try clear hx45
                                try clear hf45
                                try clear c49
                                try clear c49b0
                                try clear c50
                                try clear c50b0
                                try clear c52
                                try clear c52b0
                                try clear c52b1
                                try clear c53
                                try clear c53b0
                                try clear c53b1
                                try clear c54
                                try clear c55
                                try clear c55b0
                                try clear c56
                                try clear c56b0
                                try clear c57
                                try clear c57b0
                                try clear q58
                                try clear c59
                                try clear c60
                                try clear c62
                                try clear c62b0
                                try clear c63
                                try clear c63b0
                                try clear p64
                                try clear c68
                                try clear c68b0
                                try clear c70
                                try clear c70b0
                                try clear c73
                                try clear c73b0
                                try clear c74
                                try clear c74b0
                                try clear c78
                                try clear c80
                                try clear c80b0
                                try clear c80b1
                                try clear c81
                                try clear c83
                                try clear c83b0
                                try clear c83b1
                                try clear c84
                                try clear c86
                                try clear c89
                                try clear c90
                                try clear c91
                                try clear hcz67_0
                                try clear hcz67_1
                                try clear hcz67_2
                                try clear hcz71_0
                                try clear hcz71_1
                                try clear hcz71_2
                                try clear hcz76_0
                                try clear hcz76_1
                                try clear hcz76_2
                                try clear hcz79_0
                                try clear hcz79_1
                                try clear hcz82_0
                                try clear hcz82_1
                                try clear hcz85_0
                                try clear hcz85_1
                                try clear hcz87_0
                                try clear hcz87_1
                                try clear hcz92_0
                                try clear hcz92_1
                                try clear hcz92_2
                                try clear hcz95_0
                                try clear hcz95_1
                                try clear hcz95_2
                                try clear hfz67_0
                                try clear hfz67_1
                                try clear hfz67_2
                                try clear hfz71_0
                                try clear hfz71_1
                                try clear hfz71_2
                                try clear hfz76_0
                                try clear hfz76_1
                                try clear hfz76_2
                                try clear hfz79_0
                                try clear hfz79_1
                                try clear hfz82_0
                                try clear hfz82_1
                                try clear hfz85_0
                                try clear hfz85_1
                                try clear hfz87_0
                                try clear hfz87_1
                                try clear hfz92_0
                                try clear hfz92_1
                                try clear hfz92_2
                                try clear hfz95_0
                                try clear hfz95_1
                                try clear hfz95_2
                                try clear hx186_0
                                try clear hx187_0
                                try clear hx18_0
                                try clear hx192_0
                                try clear hx192_1
                                try clear hx193_0
                                try clear hx193_1
                                try clear hx194_0
                                try clear hx194_1
                                try clear hx197_0
                                try clear hx197_1
                                try clear hx200_0
                                try clear hx200_1
                                try clear hx201_0
                                try clear hx205_0
                                try clear hx207_0
                                try clear hx208_0
                                try clear hx208_1
                                try clear hx35_0
                                try clear hx45_0
                                try clear p1
                                try clear p18
                                try clear p186
                                try clear p187
                                try clear p19
                                try clear p192
                                try clear p193
                                try clear p194
                                try clear p197
                                try clear p2
                                try clear p20
                                try clear p200
                                try clear p201
                                try clear p205
                                try clear p207
                                try clear p208
                                try clear p3
                                try clear p35
                                try clear p4
                                try clear p45
                                try clear p6
                                try clear p64
                                try clear q1
                                try clear q18
                                try clear q186
                                try clear q187
                                try clear q19
                                try clear q192
                                try clear q193
                                try clear q194
                                try clear q197
                                try clear q2
                                try clear q20
                                try clear q200
                                try clear q201
                                try clear q205
                                try clear q207
                                try clear q208
                                try clear q3
                                try clear q35
                                try clear q4
                                try clear q45
                                try clear q5
                                try clear q58
                                obtain ⟨kq, x207002_87, u207002, HA, HJ87, HO_12, HO_14, HO_207002, BK206, BK209, HB⟩ := hcut
                                cases kq with
                                | zero => exact absurd HA.out (by simp [pianolaref08_Blocks.j10])
                                | succ kj87 =>
                                 have H := HA.out
                                 clear HA
                                 simp only [pianolaref08_Blocks.j10] at H
                                 have HC96 := Aside0.mk H
                                 clear H
                                 go_upto_region 39 with (fail)
                                 go_cut [184] (fun v184 wc => ∃ (kq : Nat) (x184_95 : Bool), v184 = .bool x184_95 ∧ Aside0 (pianolaref08_Blocks.j11 kq l0 l1 x12_5 x14_6 x15_6 x184_95 (rd x12_5 x15_6) x207001_63 x207002_87 ((rd_T34 l0 (ji72)).f0) ((rd_T34 l0 (ji72)).f1) = some (r1, r2, r3)) ∧ Aside0 (kq ≤ kj87) ∧ Aside0 (Kd.R (Kd.int .i64) 3 wc w.heap.size (fun k_ => some k_ ≠ (u207002 : Value).ownBlock) (.slice (some ad205) x12_5.length co65) x12_5) ∧ Aside0 (Kd.S k30 30 wc w.heap.size (fun k_ => some k_ ≠ ((.slice (some ad205) x12_5.length co65) : Value).ownBlock ∧ some k_ ≠ (u207002 : Value).ownBlock ∧ k_ ≠ gb206) u14 x14_6) ∧ Aside0 (Kd.R (Kd.int .i64) 3 wc w.heap.size (fun k_ => some k_ ≠ ((.slice (some ad205) x12_5.length co65) : Value).ownBlock) u207002 x207002_87) ∧ Aside0 (wc.heap[gb206]? = some (.cells #[.int .i64 (rd x12_5 x15_6), .int .i64 x207001_63, u207002] 30 (0, 0))) ∧ Aside0 (wc.heap[gb209]? = some (.cells #[.int .i64 ((rd_T34 l0 (ji72)).f0), .int .i64 ((rd_T34 l0 (ji72)).f1)] 34 (0, 0))) ∧ Aside0 (Below w.heap.size w wc))
                                 case first => as_aux_lemma =>
                                  have H := HC96.out
                                  clear HC96
                                  by_cases c97 : ((rd_T34 l0 (ji72)).f0) = 29
                                  ·rw [if_pos c97] at H
                                   have c97b0 : (((rd_T34 l0 (ji72)).f0) == 29) = true := beq_iff_eq.mpr c97
                                   have c97b1 : (((rd_T34 l0 (ji72)).f0) != 29) = false := bne_eq_false_iff_eq.mpr c97
                                   clear c97
                                   (first | rw [c97b0] | (simp only [i64_w, i32_w]; rw [c97b0]) | skip)
                                   have H' := Aside0.mk H
                                   clear H
                                   have hnb98 := NB209_206.out
                                   have hnc98 := NB206_209.out
                                   have hcz99_0 : wc.cell? ⟨gb209, 0, none⟩ = some (.int .i64 ((rd_T34 l0 (ji72)).f0)) := (blk_cell BK209.out 0).trans rfl
                                   have hcz99_1 : wc.cell? ⟨gb209, 1, none⟩ = some (.int .i64 ((rd_T34 l0 (ji72)).f1)) := (blk_cell BK209.out 1).trans rfl
                                   have hfz99_0 := blk_frozen BK209.out 0
                                   have hfz99_1 := blk_frozen BK209.out 1
                                   go_wp2
                                   go_meet
                                   case rel => exact ⟨_, (true), (by first | rfl | (simp; done) | (simp [*]; done)), H', ⟨by have := HJ2.out; have := HK2.out; have := HK3.out; have := HJ50.out; have := HK5.out; have := HK6.out; have := HJ63.out; have := HJ74.out; have := HJ87.out; first | omega | exact Nat.le_refl _⟩, ⟨by (try simp only [hl8_3]); (with_reducible repeat (first | apply Kd.R_alloc | apply Kd.R_drewN | apply Kd.R_drew)); exact HO_12.out⟩, ⟨by (try simp only [hl8_3]); (with_reducible repeat (first | apply Kd.S_alloc | apply Kd.S_drewN | apply Kd.S_drew)); exact HO_14.out⟩, ⟨by (try simp only [hl8_3]); (with_reducible repeat (first | apply Kd.R_alloc | apply Kd.R_drewN | apply Kd.R_drew)); exact HO_207002.out⟩, ⟨by (try simp only [hl8_3]); (with_reducible repeat (first | refine blk_drewN ?_ _ | refine blk_drew ?_ | refine blk_alloc ?_ _)); exact BK206.out⟩, ⟨by (try simp only [hl8_3]); (with_reducible repeat (first | refine blk_drewN ?_ _ | refine blk_drew ?_ | refine blk_alloc ?_ _)); exact BK209.out⟩, ⟨by repeat (first | (with_reducible first | exact HB.out | apply below_alloc | apply pw_below_drewN | apply below_drew1 | refine below_set ?_ GE206.out | refine below_set ?_ GE209.out) | exact HB.out)⟩⟩
                                  ·rw [if_neg c97] at H
                                   have c97b0 : (((rd_T34 l0 (ji72)).f0) == 29) = false := beq_eq_false_iff_ne.mpr c97
                                   have c97b1 : (((rd_T34 l0 (ji72)).f0) != 29) = true := bne_iff_ne.mpr c97
                                   (first | rw [c97b0] | (simp only [i64_w, i32_w]; rw [c97b0]) | skip)
                                   have H' := Aside0.mk H
                                   clear H
                                   have hnb100 := NB209_206.out
                                   have hnc100 := NB206_209.out
                                   have hcz101_0 : wc.cell? ⟨gb209, 0, none⟩ = some (.int .i64 ((rd_T34 l0 (ji72)).f0)) := (blk_cell BK209.out 0).trans rfl
                                   have hcz101_1 : wc.cell? ⟨gb209, 1, none⟩ = some (.int .i64 ((rd_T34 l0 (ji72)).f1)) := (blk_cell BK209.out 1).trans rfl
                                   have hfz101_0 := blk_frozen BK209.out 0
                                   have hfz101_1 := blk_frozen BK209.out 1
                                   go_wp2
                                   go_meet
                                   case rel => exact ⟨_, ((((rd_T34 l0 (ji72)).f0) == 30)), (by first | rfl | (simp; done) | (simp only [← hji72] <;> (first | rfl | simp)) | (simp [*]; done)), H', ⟨by have := HJ2.out; have := HK2.out; have := HK3.out; have := HJ50.out; have := HK5.out; have := HK6.out; have := HJ63.out; have := HJ74.out; have := HJ87.out; first | omega | exact Nat.le_refl _⟩, ⟨by (try simp only [hl8_3]); (with_reducible repeat (first | apply Kd.R_alloc | apply Kd.R_drewN | apply Kd.R_drew)); exact HO_12.out⟩, ⟨by (try simp only [hl8_3]); (with_reducible repeat (first | apply Kd.S_alloc | apply Kd.S_drewN | apply Kd.S_drew)); exact HO_14.out⟩, ⟨by (try simp only [hl8_3]); (with_reducible repeat (first | apply Kd.R_alloc | apply Kd.R_drewN | apply Kd.R_drew)); exact HO_207002.out⟩, ⟨by (try simp only [hl8_3]); (with_reducible repeat (first | refine blk_drewN ?_ _ | refine blk_drew ?_ | refine blk_alloc ?_ _)); exact BK206.out⟩, ⟨by (try simp only [hl8_3]); (with_reducible repeat (first | refine blk_drewN ?_ _ | refine blk_drew ?_ | refine blk_alloc ?_ _)); exact BK209.out⟩, ⟨by repeat (first | (with_reducible first | exact HB.out | apply below_alloc | apply pw_below_drewN | apply below_drew1 | refine below_set ?_ GE206.out | refine below_set ?_ GE209.out) | exact HB.out)⟩⟩
                                 case rest => as_aux_lemma =>
                                  clear HC96
                                  try clear c1
                                  try clear p1
                                  try clear q1
                                  try clear hx1
                                  try clear qi1
                                  try clear c2
                                  try clear p2
                                  try clear q2
                                  try clear hx2
                                  try clear c3
                                  try clear p3
                                  try clear q3
                                  try clear hx3
                                  try clear hf3
                                  try clear c4
                                  try clear c4b0
                                  try clear c4b1
                                  try clear c4b2
                                  try clear p4
                                  try clear q4
                                  try clear hx4
                                  try clear hf4
                                  try clear c5
                                  try clear q5
                                  try clear c6
                                  try clear c6b0
                                  try clear p6
                                  try clear c7
                                  try clear c7b0
                                  try clear c8
                                  try clear c9
                                  try clear c9b0
                                  try clear c10
                                  try clear c10b0
                                  try clear c11
                                  try clear c11b0
                                  try clear c15
                                  try clear c15b0
                                  try clear c15b1
                                  try clear c16
                                  try clear c16b0
                                  try clear c16b1
                                  try clear c17
                                  try clear c17b0
                                  try clear c17b1
                                  try clear c18
                                  try clear p18
                                  try clear q18
                                  try clear hx18
                                  try clear qi18
                                  try clear hf18
                                  try clear p19
                                  try clear q19
                                  try clear hx19
                                  try clear p20
                                  try clear q20
                                  try clear hx20
                                  try clear c23
                                  try clear c23b0
                                  try clear c25
                                  try clear c25b0
                                  try clear c26
                                  try clear c26b0
                                  try clear c26b1
                                  try clear c28
                                  try clear c29
                                  try clear c29b0
                                  try clear c30
                                  try clear c30b0
                                  try clear c32
                                  try clear c32b0
                                  try clear c33
                                  try clear c33b0
                                  try clear c34
                                  try clear c34b0
                                  try clear p35
                                  try clear q35
                                  try clear hx35
                                  try clear hf35
                                  try clear c38
                                  try clear c38b0
                                  try clear c39
                                  try clear c39b0
                                  try clear c41
                                  try clear c43
                                  try clear c43b0
                                  try clear c44
                                  try clear c44b0
                                  try clear p45
                                  try clear q45
                                  try clear hx45
                                  try clear hf45
                                  try clear c49
                                  try clear c49b0
                                  try clear c50
                                  try clear c50b0
                                  try clear c52
                                  try clear c52b0
                                  try clear c52b1
                                  try clear c53
                                  try clear c53b0
                                  try clear c53b1
                                  try clear c54
                                  try clear c55
                                  try clear c55b0
                                  try clear c56
                                  try clear c56b0
                                  try clear c57
                                  try clear c57b0
                                  try clear q58
                                  try clear c59
                                  try clear c60
                                  try clear c62
                                  try clear c62b0
                                  try clear c63
                                  try clear c63b0
                                  try clear p64
                                  try clear c68
                                  try clear c68b0
                                  try clear c70
                                  try clear c70b0
                                  try clear c73
                                  try clear c73b0
                                  try clear c74
                                  try clear c74b0
                                  try clear c78
                                  try clear c80
                                  try clear c80b0
                                  try clear c80b1
                                  try clear c81
                                  try clear c83
                                  try clear c83b0
                                  try clear c83b1
                                  try clear c84
                                  try clear c86
                                  try clear c89
                                  try clear c90
                                  try clear c91
                                  try clear c97
                                  try clear c97b0
                                  try clear c97b1
                                  try clear c98
                                  try clear c100
                                  try clear hcz101_0
                                  try clear hcz101_1
                                  try clear hcz67_0
                                  try clear hcz67_1
                                  try clear hcz67_2
                                  try clear hcz71_0
                                  try clear hcz71_1
                                  try clear hcz71_2
                                  try clear hcz76_0
                                  try clear hcz76_1
                                  try clear hcz76_2
                                  try clear hcz79_0
                                  try clear hcz79_1
                                  try clear hcz82_0
                                  try clear hcz82_1
                                  try clear hcz85_0
                                  try clear hcz85_1
                                  try clear hcz87_0
                                  try clear hcz87_1
                                  try clear hcz92_0
                                  try clear hcz92_1
                                  try clear hcz92_2
                                  try clear hcz95_0
                                  try clear hcz95_1
                                  try clear hcz95_2
                                  try clear hcz99_0
                                  try clear hcz99_1
                                  try clear hfz101_0
                                  try clear hfz101_1
                                  try clear hfz67_0
                                  try clear hfz67_1
                                  try clear hfz67_2
                                  try clear hfz71_0
                                  try clear hfz71_1
                                  try clear hfz71_2
                                  try clear hfz76_0
                                  try clear hfz76_1
                                  try clear hfz76_2
                                  try clear hfz79_0
                                  try clear hfz79_1
                                  try clear hfz82_0
                                  try clear hfz82_1
                                  try clear hfz85_0
                                  try clear hfz85_1
                                  try clear hfz87_0
                                  try clear hfz87_1
                                  try clear hfz92_0
                                  try clear hfz92_1
                                  try clear hfz92_2
                                  try clear hfz95_0
                                  try clear hfz95_1
                                  try clear hfz95_2
                                  try clear hfz99_0
                                  try clear hfz99_1
                                  try clear hx186_0
                                  try clear hx187_0
                                  try clear hx18_0
                                  try clear hx192_0
                                  try clear hx192_1
                                  try clear hx193_0
                                  try clear hx193_1
                                  try clear hx194_0
                                  try clear hx194_1
                                  try clear hx197_0
                                  try clear hx197_1
                                  try clear hx200_0
                                  try clear hx200_1
                                  try clear hx201_0
                                  try clear hx205_0
                                  try clear hx207_0
                                  try clear hx208_0
                                  try clear hx208_1
                                  try clear hx35_0
                                  try clear hx45_0
                                  try clear p1
                                  try clear p18
                                  try clear p186
                                  try clear p187
                                  try clear p19
                                  try clear p192
                                  try clear p193
                                  try clear p194
                                  try clear p197
                                  try clear p2
                                  try clear p20
                                  try clear p200
                                  try clear p201
                                  try clear p205
                                  try clear p207
                                  try clear p208
                                  try clear p3
                                  try clear p35
                                  try clear p4
                                  try clear p45
                                  try clear p6
                                  try clear p64
                                  try clear q1
                                  try clear q18
                                  try clear q186
                                  try clear q187
                                  try clear q19
                                  try clear q192
                                  try clear q193
                                  try clear q194
                                  try clear q197
                                  try clear q2
                                  try clear q20
                                  try clear q200
                                  try clear q201
                                  try clear q205
                                  try clear q207
                                  try clear q208
                                  try clear q3
                                  try clear q35
                                  try clear q4
                                  try clear q45
                                  try clear q5
                                  try clear q58
                                  obtain ⟨kq, x184_95, rfl, HA, HJ95, HO_12, HO_14, HO_207002, BK206, BK209, HB⟩ := hcut
                                  cases kq with
                                  | zero => exact absurd HA.out (by simp [pianolaref08_Blocks.j11])
                                  | succ kj95 =>
                                   have H := HA.out
                                   clear HA
                                   simp only [pianolaref08_Blocks.j11] at H
                                   by_cases c102 : x184_95 = true
                                   ·subst c102
                                    have H1 : ((pianolaref08_find.f kj95 l1 ((rd_T34 l0 (ji72)).f1)).bind fun t213 => ((pianolaref08_find.f kj95 x12_5 t213).bind fun t214 => (if x207002_87.length < 17592186044416 then (if x14_6.length < 3518437208883 then (pianolaref08_Blocks.l3 kj95 l0 l1 x12_5 (x14_6 ++ [(⟨(rd x12_5 x15_6), x207001_63, (x207002_87 ++ [t214])⟩ : S30)]) (wrap64 (x15_6 + 1))) else (none)) else (none)))) = some (r1, r2, r3) := by rw [if_pos rfl] at H; exact H
                                    clear H
                                    have H := H1
                                    clear H1
                                    replace H := Option.bind_eq_some_iff.mp H
                                    obtain ⟨t213, A1030, H⟩ := H
                                    replace H : ((pianolaref08_find.f kj95 x12_5 t213).bind fun t214 => (if x207002_87.length < 17592186044416 then (if x14_6.length < 3518437208883 then (pianolaref08_Blocks.l3 kj95 l0 l1 x12_5 (x14_6 ++ [(⟨(rd x12_5 x15_6), x207001_63, (x207002_87 ++ [t214])⟩ : S30)]) (wrap64 (x15_6 + 1))) else (none)) else (none))) = some (r1, r2, r3) := H
                                    have A103 := Aside0.mk A1030
                                    clear A1030
                                    replace H := Option.bind_eq_some_iff.mp H
                                    obtain ⟨t214, A1040, H⟩ := H
                                    replace H : (if x207002_87.length < 17592186044416 then (if x14_6.length < 3518437208883 then (pianolaref08_Blocks.l3 kj95 l0 l1 x12_5 (x14_6 ++ [(⟨(rd x12_5 x15_6), x207001_63, (x207002_87 ++ [t214])⟩ : S30)]) (wrap64 (x15_6 + 1))) else (none)) else (none)) = some (r1, r2, r3) := H
                                    have A104 := Aside0.mk A1040
                                    clear A1040
                                    by_cases c105 : x207002_87.length < 17592186044416
                                    ·rw [if_pos c105] at H
                                     have LMc105 := Aside0.mk c105
                                     clear c105
                                     obtain ⟨y215, hy215⟩ : ∃ y_ : List Int, y_ = (x207002_87 ++ [t214]) := ⟨_, rfl⟩
                                     replace H : (if x14_6.length < 3518437208883 then (pianolaref08_Blocks.l3 kj95 l0 l1 x12_5 (x14_6 ++ [(⟨(rd x12_5 x15_6), x207001_63, y215⟩ : S30)]) (wrap64 (x15_6 + 1))) else (none)) = some (r1, r2, r3) := by first | (rw [hy215]; with_reducible exact H) | (have H2_ := (Option.bind_some _ _).symm.trans H; rw [hy215]; with_reducible exact H2_) | (have H2_ := (Option.bind_some _ _).symm.trans H; with_reducible exact H2_) | with_reducible exact H | (rw [hy215]; exact H) | exact H
                                     have Ny215 := Aside0.mk hy215
                                     clear hy215
                                     by_cases c106 : x14_6.length < 3518437208883
                                     ·rw [if_pos c106] at H
                                      have LMc106 := Aside0.mk c106
                                      clear c106
                                      obtain ⟨y218, hy218⟩ : ∃ y_ : List (S30), y_ = (x14_6 ++ [(⟨(rd x12_5 x15_6), x207001_63, y215⟩ : S30)]) := ⟨_, rfl⟩
                                      replace H : (pianolaref08_Blocks.l3 kj95 l0 l1 x12_5 y218 (wrap64 (x15_6 + 1))) = some (r1, r2, r3) := by first | (rw [hy218]; with_reducible exact H) | (have H2_ := (Option.bind_some _ _).symm.trans H; rw [hy218]; with_reducible exact H2_) | (have H2_ := (Option.bind_some _ _).symm.trans H; with_reducible exact H2_) | with_reducible exact H | (rw [hy218]; exact H) | exact H
                                      have Ny218 := Aside0.mk hy218
                                      clear hy218
                                      have H' := Aside0.mk H
                                      clear H
                                      try go_wp2
                                      have n0_ := Aside0.mk (Kd.R_drew HO_12.out)
                                      have n1_ := Aside0.mk (Kd.S_drew HO_14.out)
                                      have n2_ := Aside0.mk (Kd.R_drew HO_207002.out)
                                      have n3_ := Aside0.mk (blk_drew BK206.out)
                                      have n4_ := Aside0.mk (blk_drew BK209.out)
                                      have n5_ := Aside0.mk (below_drew1 HB.out)
                                      clear HO_12
                                      clear HO_14
                                      clear HO_207002
                                      clear BK206
                                      clear BK209
                                      clear HB
                                      have HO_12 := n0_
                                      have HO_14 := n1_
                                      have HO_207002 := n2_
                                      have BK206 := n3_
                                      have BK209 := n4_
                                      have HB := n5_
                                      clear n0_ n1_ n2_ n3_ n4_ n5_
                                      refine start_ (n := 12) (S := fun w' => w'.cell? ⟨gb206, 0, none⟩ = some (.int .i64 (rd x12_5 x15_6)) ∧ w'.cell? ⟨gb206, 1, none⟩ = some (.int .i64 x207001_63) ∧ w'.cell? ⟨gb206, 2, none⟩ = some (u207002) ∧ w'.cell? ⟨gb209, 0, none⟩ = some (.int .i64 ((rd_T34 l0 (ji72)).f0)) ∧ w'.cell? ⟨gb209, 1, none⟩ = some (.int .i64 ((rd_T34 l0 (ji72)).f1))) (ds := [11]) #[false, false, false, false, false, false, false, false, false, false, false, false] (by kernel_rfl) rfl rfl ⟨(blk_cell BK206.out 0).trans rfl, (blk_cell BK206.out 1).trans rfl, (blk_cell BK206.out 2).trans rfl, (blk_cell BK209.out 0).trans rfl, (blk_cell BK209.out 1).trans rfl⟩ (fun hHeld => ?_); refine with_tabW pianolaref08_Blocks.tab40 pianolaref08_Blocks.bits40 (fun HT_ HW_ => ?_)
                                      generalize wc.drew = w107 at HO_12 HO_14 HO_207002 BK206 BK209 HB hHeld ⊢
                                      refine pure_ (i := 0) (N := some 185) (v := ?_) (a' := ?_) #[true, false, false, false, false, false, false, false, false, false, false, false] rfl rfl (any_of HT_.out (by kernel_rfl)) (fun _ _ _ h => h) (Or.inl ⟨by rfl, ?_⟩) ?_ ?_
                                      rotate_left
                                      ·intro w'
                                       go_simp
                                       with_reducible rfl
                                      rotate_left
                                      ·simp only [Act.put, List.setIfInBounds_toArray, List.set_cons_zero, List.set_cons_succ, i64_w, i32_w]
                                       rfl
                                      refine pure_ (i := 2) (N := some 187) (v := ?_) (a' := ?_) #[true, false, true, false, false, false, false, false, false, false, false, false] rfl rfl (any_of HT_.out (by kernel_rfl)) (fun _ _ _ h => h) (Or.inl ⟨by rfl, ?_⟩) ?_ ?_
                                      rotate_left
                                      ·intro w'
                                       go_simp
                                       with_reducible rfl
                                      rotate_left
                                      ·simp only [Act.put, List.setIfInBounds_toArray, List.set_cons_zero, List.set_cons_succ, i64_w, i32_w]
                                       rfl
                                      refine pure_ (i := 3) (N := some 188) (v := ?_) (a' := ?_) #[true, false, true, true, false, false, false, false, false, false, false, false] rfl rfl (any_of HT_.out (by kernel_rfl)) (fun _ _ _ h => h) (Or.inl ⟨by rfl, ?_⟩) ?_ ?_
                                      rotate_left
                                      ·intro w'
                                       go_simp
                                       with_reducible rfl
                                      rotate_left
                                      ·simp only [Act.put, List.setIfInBounds_toArray, List.set_cons_zero, List.set_cons_succ, i64_w, i32_w]
                                       rfl
                                      refine pure_ (i := 4) (N := some 189) (v := ?_) (a' := ?_) #[true, false, true, true, true, false, false, false, false, false, false, false] rfl rfl (any_of HT_.out (by kernel_rfl)) (fun _ _ _ h => h) (Or.inl ⟨by rfl, ?_⟩) ?_ ?_
                                      rotate_left
                                      ·intro w'
                                       go_simp
                                       with_reducible rfl
                                      rotate_left
                                      ·simp only [Act.put, List.setIfInBounds_toArray, List.set_cons_zero, List.set_cons_succ, i64_w, i32_w]
                                       rfl
                                      refine take_ (i := 1) (N := some 186) (v := ?_) (a' := ?_) #[true, true, true, true, true, false, false, false, false, false, false, false] rfl rfl (take_ofW HT_.out HW_.out (by kernel_rfl)) (fun _ _ _ h => h) (Or.inl ⟨by rfl, ?_⟩) hHeld ?_ ?_
                                      rotate_left
                                      ·rintro w' ⟨s0, s1, s2, s3, s4⟩
                                       go_simp
                                       with_reducible rfl
                                      rotate_left
                                      ·simp only [Act.put, List.setIfInBounds_toArray, List.set_cons_zero, List.set_cons_succ, i64_w, i32_w]
                                       rfl
                                      refine take_ (i := 5) (N := some 190) (v := ?_) (a' := ?_) #[true, true, true, true, true, true, false, false, false, false, false, false] rfl rfl (take_ofW HT_.out HW_.out (by kernel_rfl)) (fun _ _ _ h => h) (Or.inl ⟨by rfl, ?_⟩) hHeld ?_ ?_
                                      rotate_left
                                      ·rintro w' ⟨s0, s1, s2, s3, s4⟩
                                       go_simp
                                       with_reducible rfl
                                      rotate_left
                                      ·simp only [Act.put, List.setIfInBounds_toArray, List.set_cons_zero, List.set_cons_succ, i64_w, i32_w]
                                       rfl
                                      refine one_ (i := 6) (N := some 191) #[true, true, true, true, true, true, true, false, false, false, false, false] rfl rfl (one_of HT_.out (by kernel_rfl)) (by decide) (fun K hK => ?_)
                                      refine goes_ Try.func38 (by kernel_rfl) rfl #[.slice A1 l1.length c1, .int .i64 ((rd_T34 l0 (ji72)).f1)] (by rfl) rfl rfl (by (try simp only [List.map_toArray, List.map_cons, List.map_nil]); first | done | (simp only [hji72]; rfl) | rfl | (simp only [List.length_drop, List.length_take]; rfl)) ?_
                                      with_reducible refine (pianolaref08_find.calls kj95 _ _ l1 ((rd_T34 l0 (ji72)).f1) t213 _ ?side1 ?side2 A103.out).mono ?_
                                      (case side1 => repeat (first | exact (Kd.C_below HR1.out HB.out) | (with_reducible refine Kd.C_alloc ?_ _) | (with_reducible refine Kd.C_drewN ?_ _) | (with_reducible refine Kd.C_drew ?_)))
                                      (case side2 => exact HC1.out)
                                      rintro e w' ⟨rfl, ⟨nd, rfl⟩⟩
                                      refine ⟨_, rfl, ?_⟩
                                      refine hK.out _ _ ⟨(blk_cell BK206.out 0).trans rfl, (blk_cell BK206.out 1).trans rfl, (blk_cell BK206.out 2).trans rfl, (blk_cell BK209.out 0).trans rfl, (blk_cell BK209.out 1).trans rfl⟩ (fun hHeld => ?_)
                                      clear hK K
                                      refine norm_ (a' := ?_) ?_ ?_
                                      rotate_left
                                      ·show Act.put _ (some 191) _ = _
                                       simp only [Act.put, List.setIfInBounds_toArray, List.set_cons_zero, List.set_cons_succ, i64_w, i32_w]
                                       rfl
                                      refine one_ (i := 7) (N := some 192) #[true, true, true, true, true, true, true, true, false, false, false, false] rfl rfl (one_of HT_.out (by kernel_rfl)) (by decide) (fun K hK => ?_)
                                      refine goes_ Try.func38 (by kernel_rfl) rfl #[.slice (some ad205) x12_5.length co65, .int .i64 t213] (by rfl) rfl rfl (by (try simp only [List.map_toArray, List.map_cons, List.map_nil]); first | done | rfl | (simp only [List.length_drop, List.length_take]; rfl)) ?_
                                      with_reducible refine (pianolaref08_find.calls kj95 _ _ x12_5 t213 t214 _ ?side1 ?side2 A104.out).mono ?_
                                      (case side1 => repeat (first | exact (Kd.R_reads' HO_12.out).2.2 | (with_reducible refine Kd.C_alloc ?_ _) | (with_reducible refine Kd.C_drewN ?_ _) | (with_reducible refine Kd.C_drew ?_)))
                                      (case side2 => exact (Kd.R_reads' HO_12.out).2.1)
                                      rintro e w' ⟨rfl, ⟨nd, rfl⟩⟩
                                      refine ⟨_, rfl, ?_⟩
                                      refine hK.out _ _ ⟨(blk_cell BK206.out 0).trans rfl, (blk_cell BK206.out 1).trans rfl, (blk_cell BK206.out 2).trans rfl, (blk_cell BK209.out 0).trans rfl, (blk_cell BK209.out 1).trans rfl⟩ (fun hHeld => ?_)
                                      clear hK K
                                      refine norm_ (a' := ?_) ?_ ?_
                                      rotate_left
                                      ·show Act.put _ (some 192) _ = _
                                       simp only [Act.put, List.setIfInBounds_toArray, List.set_cons_zero, List.set_cons_succ, i64_w, i32_w]
                                       rfl
                                      refine one_ (i := 8) (N := some 193) #[true, true, true, true, true, true, true, true, true, false, false, false] rfl rfl (one_of HT_.out (by kernel_rfl)) (by decide) (fun K hK => ?_)
                                      refine value_ (w1 := ?_) (v := ?_) (by rfl) rfl ?_ ?_
                                      rotate_left 2
                                      ·go_simp
                                       constructor
                                       ·rfl
                                       ·rfl
                                      refine hK.out _ _ ⟨(blk_cell (blk_alloc BK206.out _) 0).trans rfl, (blk_cell (blk_alloc BK206.out _) 1).trans rfl, (blk_cell (blk_alloc BK206.out _) 2).trans rfl, (blk_cell (blk_alloc BK209.out _) 0).trans rfl, (blk_cell (blk_alloc BK209.out _) 1).trans rfl⟩ (fun hHeld => ?_)
                                      clear hK K
                                      refine norm_ (a' := ?_) ?_ ?_
                                      rotate_left
                                      ·show Act.put _ (some 193) _ = _
                                       simp only [Act.put, List.setIfInBounds_toArray, List.set_cons_zero, List.set_cons_succ, i64_w, i32_w]
                                       rfl
                                      refine one_ (i := 9) (N := some 194) #[true, true, true, true, true, true, true, true, true, true, false, false] rfl rfl (one_of HT_.out (by kernel_rfl)) (by decide) (fun K hK => ?_)
                                      refine Kd.R_append_step (Kd.int .i64) (w0 := w) w.heap.size (by rfl) (.tmp 186) (.tmp 193) 23 3 (.int .i64 0) 8 rfl Try.underlying23 info3 rfl (by decide) (by omega) u207002 x207002_87 t214 [.int .i64 t214] (fun k_ => some k_ ≠ (.slice (some ad205) x12_5.length co65 : Value).ownBlock) (fun _ => False) rfl rfl ?aP (fun _ hk => hk.elim) ?aF ?aO ?aB ?aS ?aL ?_
                                      (case aP => exact rfl)
                                      (case aB => exact (by repeat (first | (with_reducible first | exact HB.out | apply below_alloc | apply pw_below_drewN | apply below_drew1 | refine below_set ?_ GE206.out | refine below_set ?_ GE209.out) | exact HB.out)))
                                      (case aF => exact (fun k_ hk => Kd.fresh' (Kd.R_lt (by (with_reducible repeat (first | apply Kd.R_alloc | apply Kd.R_drewN | apply Kd.R_drew)); exact HO_12.out)) k_ hk))
                                      (case aO => exact (by (with_reducible repeat (first | apply Kd.R_alloc | apply Kd.R_drewN | apply Kd.R_drew)); exact HO_207002.out))
                                      (case aS => exact (below_size (by repeat (first | (with_reducible first | exact HB.out | apply below_alloc | apply pw_below_drewN | apply below_drew1 | refine below_set ?_ GE206.out | refine below_set ?_ GE209.out) | exact HB.out))))
                                      (case aL => have := LMc105.out; omega)
                                      intro v216 w108 ho hb hg hat
                                      rw [← Ny215.out] at ho
                                      have n0_ := Aside0.mk (Kd.R_after (ok := (fun _ => True)) (by (with_reducible repeat (first | apply Kd.R_alloc | apply Kd.R_drewN | apply Kd.R_drew)); exact Kd.R_mono HO_12.out (fun _ hk => ⟨trivial, hk⟩)) hg hat)
                                      have n1_ := Aside0.mk (Kd.S_after (ok := (fun k_ => some k_ ≠ (.slice (some ad205) x12_5.length co65 : Value).ownBlock ∧ k_ ≠ gb206)) (by (with_reducible repeat (first | apply Kd.S_alloc | apply Kd.S_drewN | apply Kd.S_drew)); exact Kd.S_mono HO_14.out (fun _ hk => ⟨⟨hk.1, hk.2.2⟩, hk.2.1⟩)) hg hat)
                                      have n2_ := Aside0.mk (blk_grown (g := gb206) (o := .cells #[.int .i64 (rd x12_5 x15_6), .int .i64 x207001_63, u207002] 30 (0, 0)) (by (with_reducible repeat (first | refine blk_drewN ?_ _ | refine blk_drew ?_ | refine blk_alloc ?_ _)); exact BK206.out) hg (Kd.R_ne HO_207002.out BK206.out (by decide)))
                                      have n3_ := Aside0.mk (blk_grown (g := gb209) (o := .cells #[.int .i64 ((rd_T34 l0 (ji72)).f0), .int .i64 ((rd_T34 l0 (ji72)).f1)] 34 (0, 0)) (by (with_reducible repeat (first | refine blk_drewN ?_ _ | refine blk_drew ?_ | refine blk_alloc ?_ _)); exact BK209.out) hg (Kd.R_ne HO_207002.out BK209.out (by decide)))
                                      have n4_ := Aside0.mk (hb)
                                      have n5_ := Aside0.mk (ho)
                                      clear HO_12
                                      clear HO_14
                                      clear BK206
                                      clear BK209
                                      clear HB
                                      clear HO_207002
                                      have HO_12 := n0_
                                      have HO_14 := n1_
                                      have BK206 := n2_
                                      have BK209 := n3_
                                      have HB := n4_
                                      have HO217 := n5_
                                      clear n0_ n1_ n2_ n3_ n4_ n5_
                                      clear ho hb hg hat
                                      obtain ⟨Ao109, co109, eo109⟩ := Kd.R_slice HO217.out
                                      (first | subst eo109 | (injection eo109 with f1_ f2_ f3_; have f4_ := f1_.symm; have f5_ := f3_.symm; clear f1_ f2_ f3_; subst f4_; subst f5_))
                                      refine hK.out _ _ ⟨(blk_cell BK206.out 0).trans rfl, (blk_cell BK206.out 1).trans rfl, (blk_cell BK206.out 2).trans rfl, (blk_cell BK209.out 0).trans rfl, (blk_cell BK209.out 1).trans rfl⟩ (fun hHeld => ?_)
                                      clear hK K
                                      refine norm_ (a' := ?_) ?_ ?_
                                      rotate_left
                                      ·show Act.put _ (some 194) _ = _
                                       simp only [Act.put, List.setIfInBounds_toArray, List.set_cons_zero, List.set_cons_succ, i64_w, i32_w]
                                       rfl
                                      refine pure_ (i := 10) (N := some 195) (v := ?_) (a' := ?_) #[true, true, true, true, true, true, true, true, true, true, true, false] rfl rfl (any_of HT_.out (by kernel_rfl)) (fun _ _ _ h => h) (Or.inl ⟨by rfl, ?_⟩) ?_ ?_
                                      rotate_left
                                      ·intro w'
                                       go_simp
                                       with_reducible rfl
                                      rotate_left
                                      ·simp only [Act.put, List.setIfInBounds_toArray, List.set_cons_zero, List.set_cons_succ, i64_w, i32_w]
                                       rfl
                                      refine last_ (i := 11) (N := none) #[true, true, true, true, true, true, true, true, true, true, true, true] rfl rfl (one_of HT_.out (by kernel_rfl)) (by decide) (fun K hK => ?_)
                                      have hs110 : w108.cell? ⟨gb206, 2, none⟩ = some (u207002) := (blk_cell BK206.out 2).trans rfl
                                      have hfs110 := blk_frozen BK206.out 2
                                      have hns110_1 := NB209_206.out
                                      have hms110_1 := NB206_209.out
                                      refine skip_ (w1 := ?_) (by rfl) rfl ?_ ?_
                                      rotate_left
                                      ·go_simp
                                       rfl
                                      refine hK.out _ _ ?_
                                      clear hK K
                                      refine done_ (done_of HT_.out (by kernel_rfl)) ?_
                                      have n0_ : Aside0 (Kd.R (Kd.int .i64) 3 (w108.setCell ⟨gb206, 2, none⟩ (.slice Ao109 y215.length co109)) w.heap.size (fun k_ => some k_ ≠ (.slice Ao109 y215.length co109 : Value).ownBlock) (.slice (some ad205) x12_5.length co65) x12_5) := ⟨by (with_reducible repeat (first | apply Kd.R_alloc | apply Kd.R_drewN | apply Kd.R_drew)); exact Kd.R_mono (Kd.R_far (p := ⟨gb206, 2, none⟩) (Kd.R_types HO_12.out BK206.out (by decide)) (fun _ hk => hk.2) (.slice Ao109 y215.length co109)) (fun _ hk => hk.1.2)⟩
                                      have n1_ : Aside0 (Kd.S k30 30 (w108.setCell ⟨gb206, 2, none⟩ (.slice Ao109 y215.length co109)) w.heap.size (fun k_ => some k_ ≠ (.slice (some ad205) x12_5.length co65 : Value).ownBlock ∧ some k_ ≠ (.slice Ao109 y215.length co109 : Value).ownBlock ∧ k_ ≠ gb206) u14 x14_6) := ⟨by (with_reducible repeat (first | apply Kd.S_alloc | apply Kd.S_drewN | apply Kd.S_drew)); exact Kd.S_mono (Kd.S_far (p := ⟨gb206, 2, none⟩) (Kd.S_mono HO_14.out (fun k_ hk => (⟨hk, hk.1.2⟩ : _ ∧ k_ ≠ gb206))) (fun _ hk => hk.2) (.slice Ao109 y215.length co109)) (fun _ hk => ⟨hk.1.1.1, ⟨hk.1.2, hk.1.1.2⟩⟩)⟩
                                      have n2_ : Aside0 (Kd.R (Kd.int .i64) 3 (w108.setCell ⟨gb206, 2, none⟩ (.slice Ao109 y215.length co109)) w.heap.size (fun k_ => some k_ ≠ (.slice (some ad205) x12_5.length co65 : Value).ownBlock) (.slice Ao109 y215.length co109) y215) := ⟨by (with_reducible repeat (first | apply Kd.R_alloc | apply Kd.R_drewN | apply Kd.R_drew)); exact Kd.R_mono (Kd.R_far (p := ⟨gb206, 2, none⟩) (Kd.R_types HO217.out BK206.out (by decide)) (fun _ hk => hk.2) (.slice Ao109 y215.length co109)) (fun _ hk => hk.1)⟩
                                      have n3_ : Aside0 ((w108.setCell ⟨gb206, 2, none⟩ (.slice Ao109 y215.length co109)).heap[gb206]? = some (.cells #[.int .i64 (rd x12_5 x15_6), .int .i64 x207001_63, .slice Ao109 y215.length co109] 30 (0, 0))) := ⟨by (with_reducible repeat (first | refine blk_drewN ?_ _ | refine blk_drew ?_ | refine blk_alloc ?_ _)); refine blk_put (cs := #[.int .i64 (rd x12_5 x15_6), .int .i64 x207001_63, u207002]) ?_ 2 _ rfl; (with_reducible repeat (first | refine blk_drewN ?_ _ | refine blk_drew ?_ | refine blk_alloc ?_ _)); exact BK206.out⟩
                                      have n4_ : Aside0 ((w108.setCell ⟨gb206, 2, none⟩ (.slice Ao109 y215.length co109)).heap[gb209]? = some (.cells #[.int .i64 ((rd_T34 l0 (ji72)).f0), .int .i64 ((rd_T34 l0 (ji72)).f1)] 34 (0, 0))) := ⟨by (with_reducible repeat (first | refine blk_drewN ?_ _ | refine blk_drew ?_ | refine blk_alloc ?_ _)); refine blk_far ?_ NB209_206.out _; (with_reducible repeat (first | refine blk_drewN ?_ _ | refine blk_drew ?_ | refine blk_alloc ?_ _)); exact BK209.out⟩
                                      have n5_ : Aside0 (Below w.heap.size w (w108.setCell ⟨gb206, 2, none⟩ (.slice Ao109 y215.length co109))) := ⟨by repeat (first | (with_reducible first | exact HB.out | apply below_alloc | apply pw_below_drewN | apply below_drew1 | refine below_set ?_ GE206.out | refine below_set ?_ GE209.out) | exact HB.out)⟩
                                      (try clear HO_12)
                                      (try clear HO_14)
                                      (try clear HO217)
                                      (try clear BK206)
                                      (try clear BK209)
                                      (try clear HB)
                                      generalize (w108.setCell ⟨gb206, 2, none⟩ (.slice Ao109 y215.length co109)) = w111 at n0_ n1_ n2_ n3_ n4_ n5_ ⊢
                                      have HO_12 := n0_
                                      have HO_14 := n1_
                                      have HO217 := n2_
                                      have BK206 := n3_
                                      have BK209 := n4_
                                      have HB := n5_
                                      clear n0_ n1_ n2_ n3_ n4_ n5_
                                      have hnb112 := NB206_209.out
                                      have hnc112 := NB209_206.out
                                      have hcz113_0 : w111.cell? ⟨gb206, 0, none⟩ = some (.int .i64 (rd x12_5 x15_6)) := (blk_cell BK206.out 0).trans rfl
                                      have hcz113_1 : w111.cell? ⟨gb206, 1, none⟩ = some (.int .i64 x207001_63) := (blk_cell BK206.out 1).trans rfl
                                      have hcz113_2 : w111.cell? ⟨gb206, 2, none⟩ = some (.slice Ao109 y215.length co109) := (blk_cell BK206.out 2).trans rfl
                                      have hfz113_0 := blk_frozen BK206.out 0
                                      have hfz113_1 := blk_frozen BK206.out 1
                                      have hfz113_2 := blk_frozen BK206.out 2
                                      try go_wp2_with (first | ((with_reducible refine gate_builtin (b := .append) (xs := #[.tmp 196, .tmp 198]) rfl ?_); (try (refine gate_guard (by rfl) ?_; dsimp only)); at_builtin; refine Kd.S_append k30 (w0 := w) w.heap.size rfl (.tmp 196) (.tmp 198) 25 30 (.agg #[(.int .i64 0), (.int .i64 0), (.slice none 0 0)]) 40 rfl Try.underlying25 info30 rfl (by decide) (by omega) u14 x14_6 (⟨(rd x12_5 x15_6), x207001_63, y215⟩ : S30) [.int .i64 (rd x12_5 x15_6), .int .i64 x207001_63, .slice Ao109 y215.length co109] (fun k_ => some k_ ≠ (.slice (some ad205) x12_5.length co65 : Value).ownBlock ∧ k_ ≠ gb206) (fun k_ => some k_ = (.slice Ao109 y215.length co109 : Value).ownBlock) rfl rfl ?aP (fun k_ hk_ => ((Kd.R_mono (ok' := fun k_ => ((fun k_ => some k_ ≠ (.slice (some ad205) x12_5.length co65 : Value).ownBlock ∧ k_ ≠ gb206)) k_ ∧ some k_ ≠ (u14 : Value).ownBlock) (Kd.R_types (Kd.R_apart' (HO217.out) (Kd.S_typed HO_14.out) (by decide)) BK206.out (by decide)) (fun k_ hk => ⟨⟨hk.1.1, hk.2⟩, hk.1.2⟩))).1 k_ hk_.symm) ?aF ?aO ?aB ?aS ?aL ?_; (case aP => exact k30_mkM _ _ _ (⟨(rd x12_5 x15_6), x207001_63, y215⟩ : S30) (Kd.R_mono (Kd.R_tight rfl (Kd.R_mono (ok' := fun k_ => ((fun k_ => some k_ ≠ (.slice (some ad205) x12_5.length co65 : Value).ownBlock ∧ k_ ≠ gb206)) k_ ∧ some k_ ≠ (u14 : Value).ownBlock) (Kd.R_types (Kd.R_apart' (HO217.out) (Kd.S_typed HO_14.out) (by decide)) BK206.out (by decide)) (fun k_ hk => ⟨⟨hk.1.1, hk.2⟩, hk.1.2⟩))) (fun _ h_ => h_))); (case aB => exact (by repeat (first | (with_reducible first | exact HB.out | apply below_alloc | apply pw_below_drewN | apply below_drew1 | refine below_set ?_ GE206.out | refine below_set ?_ GE209.out) | exact HB.out))); (case aF => exact (fun k_ hk => ⟨Kd.fresh' (Kd.R_lt (by (with_reducible repeat (first | apply Kd.R_alloc | apply Kd.R_drewN | apply Kd.R_drew)); exact HO_12.out)) k_ hk, Kd.freshB (g := gb206) (o := .cells #[.int .i64 (rd x12_5 x15_6), .int .i64 x207001_63, .slice Ao109 y215.length co109] 30 (0, 0)) (by (with_reducible repeat (first | refine blk_drewN ?_ _ | refine blk_drew ?_ | refine blk_alloc ?_ _)); exact BK206.out) k_ hk⟩)); (case aO => exact (by (with_reducible repeat (first | apply Kd.S_alloc | apply Kd.S_drewN | apply Kd.S_drew)); exact Kd.S_mono HO_14.out (fun k_ hk => ⟨⟨hk.1, hk.2.2⟩, fun e_ => hk.2.1 e_⟩))); (case aS => exact (below_size (by repeat (first | (with_reducible first | exact HB.out | apply below_alloc | apply pw_below_drewN | apply below_drew1 | refine below_set ?_ GE206.out | refine below_set ?_ GE209.out) | exact HB.out)))); (case aL => have := LMc106.out; omega); intro v219 w114 ho hb hg hat; rw [← Ny218.out] at ho; have n0_ := Aside0.mk (Kd.R_over' (by (with_reducible repeat (first | apply Kd.R_alloc | apply Kd.R_drewN | apply Kd.R_drew)); exact HO_12.out) (Kd.S_typed (by (with_reducible repeat (first | apply Kd.S_alloc | apply Kd.S_drewN | apply Kd.S_drew)); exact HO_14.out)) (by decide) hg); have n1_ := Aside0.mk (blk_grown (g := gb206) (o := .cells #[.int .i64 (rd x12_5 x15_6), .int .i64 x207001_63, .slice Ao109 y215.length co109] 30 (0, 0)) (by (with_reducible repeat (first | refine blk_drewN ?_ _ | refine blk_drew ?_ | refine blk_alloc ?_ _)); exact BK206.out) hg (Kd.S_away HO_14.out (fun _ hk => hk.2.2))); have n2_ := Aside0.mk (blk_grown (g := gb209) (o := .cells #[.int .i64 ((rd_T34 l0 (ji72)).f0), .int .i64 ((rd_T34 l0 (ji72)).f1)] 34 (0, 0)) (by (with_reducible repeat (first | refine blk_drewN ?_ _ | refine blk_drew ?_ | refine blk_alloc ?_ _)); exact BK209.out) hg (Kd.S_ne HO_14.out BK209.out (by decide))); have n3_ := Aside0.mk (hb); have n4_ := Aside0.mk (ho); clear HO_12; clear BK206; clear BK209; clear HB; clear HO_14; clear HO217; have HO_12 := n0_; have BK206 := n1_; have BK209 := n2_; have HB := n3_; have HO220 := n4_; clear n0_ n1_ n2_ n3_ n4_; clear ho hb hg hat))
                                      go_roundg kj95
                                      case measure => have := HJ2.out; have := HK2.out; have := HK3.out; have := HJ50.out; have := HK5.out; have := HK6.out; have := HJ63.out; have := HJ74.out; have := HJ87.out; have := HJ95.out; omega
                                      case rel => exact ⟨(y218), (wrap64 (x15_6 + 1)), (by first | rfl | (simp; done) | (simp [*]; done)), H', ⟨by have := HJ2.out; have := HK2.out; have := HK3.out; have := HJ50.out; have := HK5.out; have := HK6.out; have := HJ63.out; have := HJ74.out; have := HJ87.out; have := HJ95.out; omega⟩, ⟨by (try simp only [hl8_3]); (with_reducible repeat (first | apply Kd.R_alloc | apply Kd.R_drewN | apply Kd.R_drew)); exact Kd.R_mono HO_12.out (fun _ hk => trivial)⟩, ⟨by (try simp only [hl8_3]); (with_reducible repeat (first | apply Kd.S_alloc | apply Kd.S_drewN | apply Kd.S_drew)); exact Kd.S_mono HO220.out (fun _ hk => hk.1)⟩, ⟨by repeat (first | (with_reducible first | exact HB.out | apply below_alloc | apply pw_below_drewN | apply below_drew1 | refine below_set ?_ GE206.out | refine below_set ?_ GE209.out) | exact HB.out)⟩⟩
                                     ·rw [if_neg c106] at H
                                      exact absurd H (by simp)
                                    ·rw [if_neg c105] at H
                                     exact absurd H (by simp)
                                   ·replace c102 := Bool.eq_false_iff.mpr c102
                                    subst c102
                                    have H1 : (if x14_6.length < 3518437208883 then (pianolaref08_Blocks.l3 kj95 l0 l1 x12_5 (x14_6 ++ [(⟨(rd x12_5 x15_6), x207001_63, x207002_87⟩ : S30)]) (wrap64 (x15_6 + 1))) else (none)) = some (r1, r2, r3) := by rw [if_neg (show ¬ (false = true) by decide)] at H; exact H
                                    clear H
                                    have H := H1
                                    clear H1
                                    by_cases c115 : x14_6.length < 3518437208883
                                    ·rw [if_pos c115] at H
                                     have LMc115 := Aside0.mk c115
                                     clear c115
                                     obtain ⟨y221, hy221⟩ : ∃ y_ : List (S30), y_ = (x14_6 ++ [(⟨(rd x12_5 x15_6), x207001_63, x207002_87⟩ : S30)]) := ⟨_, rfl⟩
                                     replace H : (pianolaref08_Blocks.l3 kj95 l0 l1 x12_5 y221 (wrap64 (x15_6 + 1))) = some (r1, r2, r3) := by first | (rw [hy221]; with_reducible exact H) | (have H2_ := (Option.bind_some _ _).symm.trans H; rw [hy221]; with_reducible exact H2_) | (have H2_ := (Option.bind_some _ _).symm.trans H; with_reducible exact H2_) | with_reducible exact H | (rw [hy221]; exact H) | exact H
                                     have Ny221 := Aside0.mk hy221
                                     clear hy221
                                     have H' := Aside0.mk H
                                     clear H
                                     have hnb116 := NB206_209.out
                                     have hnc116 := NB209_206.out
                                     have hcz117_0 : wc.cell? ⟨gb206, 0, none⟩ = some (.int .i64 (rd x12_5 x15_6)) := (blk_cell BK206.out 0).trans rfl
                                     have hcz117_1 : wc.cell? ⟨gb206, 1, none⟩ = some (.int .i64 x207001_63) := (blk_cell BK206.out 1).trans rfl
                                     have hcz117_2 : wc.cell? ⟨gb206, 2, none⟩ = some (u207002) := (blk_cell BK206.out 2).trans rfl
                                     have hfz117_0 := blk_frozen BK206.out 0
                                     have hfz117_1 := blk_frozen BK206.out 1
                                     have hfz117_2 := blk_frozen BK206.out 2
                                     obtain ⟨Ao119, co119, eo119⟩ := Kd.R_slice HO_207002.out
                                     subst eo119
                                     go_wp2_with (first | ((with_reducible refine gate_builtin (b := .append) (xs := #[.tmp 196, .tmp 198]) rfl ?_); (try (refine gate_guard (by rfl) ?_; dsimp only)); at_builtin; refine Kd.S_append k30 (w0 := w) w.heap.size rfl (.tmp 196) (.tmp 198) 25 30 (.agg #[(.int .i64 0), (.int .i64 0), (.slice none 0 0)]) 40 rfl Try.underlying25 info30 rfl (by decide) (by omega) u14 x14_6 (⟨(rd x12_5 x15_6), x207001_63, x207002_87⟩ : S30) [.int .i64 (rd x12_5 x15_6), .int .i64 x207001_63, .slice Ao119 x207002_87.length co119] (fun k_ => some k_ ≠ (.slice (some ad205) x12_5.length co65 : Value).ownBlock ∧ k_ ≠ gb206) (fun k_ => some k_ = (.slice Ao119 x207002_87.length co119 : Value).ownBlock) rfl rfl ?aP (fun k_ hk_ => ((Kd.R_mono (ok' := fun k_ => ((fun k_ => some k_ ≠ (.slice (some ad205) x12_5.length co65 : Value).ownBlock ∧ k_ ≠ gb206)) k_ ∧ some k_ ≠ (u14 : Value).ownBlock) (Kd.R_types (Kd.R_apart' (HO_207002.out) (Kd.S_typed HO_14.out) (by decide)) BK206.out (by decide)) (fun k_ hk => ⟨⟨hk.1.1, hk.2⟩, hk.1.2⟩))).1 k_ hk_.symm) ?aF ?aO ?aB ?aS ?aL ?_; (case aP => exact k30_mkM _ _ _ (⟨(rd x12_5 x15_6), x207001_63, x207002_87⟩ : S30) (Kd.R_mono (Kd.R_tight rfl (Kd.R_mono (ok' := fun k_ => ((fun k_ => some k_ ≠ (.slice (some ad205) x12_5.length co65 : Value).ownBlock ∧ k_ ≠ gb206)) k_ ∧ some k_ ≠ (u14 : Value).ownBlock) (Kd.R_types (Kd.R_apart' (HO_207002.out) (Kd.S_typed HO_14.out) (by decide)) BK206.out (by decide)) (fun k_ hk => ⟨⟨hk.1.1, hk.2⟩, hk.1.2⟩))) (fun _ h_ => h_))); (case aB => exact (by repeat (first | (with_reducible first | exact HB.out | apply below_alloc | apply pw_below_drewN | apply below_drew1 | refine below_set ?_ GE206.out | refine below_set ?_ GE209.out) | exact HB.out))); (case aF => exact (fun k_ hk => ⟨Kd.fresh' (Kd.R_lt (by (with_reducible repeat (first | apply Kd.R_alloc | apply Kd.R_drewN | apply Kd.R_drew)); exact HO_12.out)) k_ hk, Kd.freshB (g := gb206) (o := .cells #[.int .i64 (rd x12_5 x15_6), .int .i64 x207001_63, .slice Ao119 x207002_87.length co119] 30 (0, 0)) (by (with_reducible repeat (first | refine blk_drewN ?_ _ | refine blk_drew ?_ | refine blk_alloc ?_ _)); exact BK206.out) k_ hk⟩)); (case aO => exact (by (with_reducible repeat (first | apply Kd.S_alloc | apply Kd.S_drewN | apply Kd.S_drew)); exact Kd.S_mono HO_14.out (fun k_ hk => ⟨⟨hk.1, hk.2.2⟩, fun e_ => hk.2.1 e_⟩))); (case aS => exact (below_size (by repeat (first | (with_reducible first | exact HB.out | apply below_alloc | apply pw_below_drewN | apply below_drew1 | refine below_set ?_ GE206.out | refine below_set ?_ GE209.out) | exact HB.out)))); (case aL => have := LMc115.out; omega); intro v222 w118 ho hb hg hat; rw [← Ny221.out] at ho; have n0_ := Aside0.mk (Kd.R_over' (by (with_reducible repeat (first | apply Kd.R_alloc | apply Kd.R_drewN | apply Kd.R_drew)); exact HO_12.out) (Kd.S_typed (by (with_reducible repeat (first | apply Kd.S_alloc | apply Kd.S_drewN | apply Kd.S_drew)); exact HO_14.out)) (by decide) hg); have n1_ := Aside0.mk (blk_grown (g := gb206) (o := .cells #[.int .i64 (rd x12_5 x15_6), .int .i64 x207001_63, .slice Ao119 x207002_87.length co119] 30 (0, 0)) (by (with_reducible repeat (first | refine blk_drewN ?_ _ | refine blk_drew ?_ | refine blk_alloc ?_ _)); exact BK206.out) hg (Kd.S_away HO_14.out (fun _ hk => hk.2.2))); have n2_ := Aside0.mk (blk_grown (g := gb209) (o := .cells #[.int .i64 ((rd_T34 l0 (ji72)).f0), .int .i64 ((rd_T34 l0 (ji72)).f1)] 34 (0, 0)) (by (with_reducible repeat (first | refine blk_drewN ?_ _ | refine blk_drew ?_ | refine blk_alloc ?_ _)); exact BK209.out) hg (Kd.S_ne HO_14.out BK209.out (by decide))); have n3_ := Aside0.mk (hb); have n4_ := Aside0.mk (ho); clear HO_12; clear BK206; clear BK209; clear HB; clear HO_14; clear HO_207002; have HO_12 := n0_; have BK206 := n1_; have BK209 := n2_; have HB := n3_; have HO223 := n4_; clear n0_ n1_ n2_ n3_ n4_; clear ho hb hg hat))
                                     go_roundg kj95
                                     case measure => have := HJ2.out; have := HK2.out; have := HK3.out; have := HJ50.out; have := HK5.out; have := HK6.out; have := HJ63.out; have := HJ74.out; have := HJ87.out; have := HJ95.out; omega
                                     case rel => exact ⟨(y221), (wrap64 (x15_6 + 1)), (by first | rfl | (simp; done) | (simp [*]; done)), H', ⟨by have := HJ2.out; have := HK2.out; have := HK3.out; have := HJ50.out; have := HK5.out; have := HK6.out; have := HJ63.out; have := HJ74.out; have := HJ87.out; have := HJ95.out; omega⟩, ⟨by (try simp only [hl8_3]); (with_reducible repeat (first | apply Kd.R_alloc | apply Kd.R_drewN | apply Kd.R_drew)); exact Kd.R_mono HO_12.out (fun _ hk => trivial)⟩, ⟨by (try simp only [hl8_3]); (with_reducible repeat (first | apply Kd.S_alloc | apply Kd.S_drewN | apply Kd.S_drew)); exact Kd.S_mono HO223.out (fun _ hk => hk.1)⟩, ⟨by repeat (first | (with_reducible first | exact HB.out | apply below_alloc | apply pw_below_drewN | apply below_drew1 | refine below_set ?_ GE206.out | refine below_set ?_ GE209.out) | exact HB.out)⟩⟩
                                    ·rw [if_neg c115] at H
                                     exact absurd H (by simp)
                            ·rw [if_neg c74] at H
                             exact absurd H (by simp)
                           ·rw [if_neg c73] at H
                            exact absurd H (by simp)
                        ·rw [if_neg c63] at H
                         exact absurd H (by simp)
                       ·rw [if_neg c62] at H
                        have c62b0 : decide (x15_6 < (x12_5.length : Int)) = false := decide_eq_false c62
                        clear c62
                        simp only [Option.some.injEq, Prod.mk.injEq] at H
                        obtain ⟨rfl, rfl, rfl⟩ := H
                        obtain ⟨Ao120, co120, eo120⟩ := Kd.R_slice HO_12.out
                        subst eo120
                        obtain ⟨Ao121, co121, eo121⟩ := Kd.S_slice HO_14.out
                        subst eo121
                        go_wp2
                        go_ret3
                        exact ⟨_, by first | rfl | (simp [errW_none, errW_some] <;> rfl) | (simp only [← hji14, ← hji48]; first | rfl | (simp [errW_none, errW_some] <;> rfl)) | (simp [*, errW_none, errW_some] <;> rfl), by (with_reducible repeat (first | apply Kd.S_alloc | apply Kd.S_drewN | apply Kd.S_drew)); exact Kd.S_mono HO_14.out (fun _ hk => trivial), by repeat (first | (with_reducible first | exact HB.out | apply below_alloc | apply pw_below_drewN | apply below_drew1) | exact HB.out)⟩
              ·rw [if_neg c50] at H
               exact absurd H (by simp)
             ·rw [if_neg c49] at H
              exact absurd H (by simp)
         ·rw [if_neg c17] at H
          exact absurd H (by simp)
        ·rw [if_neg c16] at H
         exact absurd H (by simp)
       ·rw [if_neg c15] at H
        exact absurd H (by simp)

end Go.Proofs.Ytpfbfnbffglbkaa.P
