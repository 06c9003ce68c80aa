/- A row turned about: plain; no statement of the seat. -/
import Derived.Test.YtpfbfnbffglbkaaPF41
set_option linter.unusedVariables false
set_option linter.unusedSimpArgs false
namespace Go.Proofs.Ytpfbfnbffglbkaa.P
open Go.RowKit Go.Proofs.YtpfbfnbffglbkaaW.PrintWords Go.Proofs.YtpfbfnbffglbkaaW.PrintLast Go.Proofs.YtpfbfnbffglbkaaW.PrintMore
theorem rd_nat (l : List Int) (i : Nat) (h : i < l.length) : rd l (i : Int) = l[i] := by
  unfold rd
  rw [Int.toNat_natCast, List.getD_eq_getElem?_getD, List.getElem?_eq_getElem h]
  rfl
theorem rd_mid (A : List Int) (y : Int) (B : List Int) (i : Int) (hi : i = (A.length : Int)) : rd (A ++ y :: B) i = y := by
  subst hi
  unfold rd
  rw [Int.toNat_natCast, List.getD_eq_getElem?_getD, List.getElem?_append_right (Nat.le_refl _), Nat.sub_self]
  rfl
theorem set_mid (A : List Int) (y z : Int) (B : List Int) (i : Nat) (hi : i = A.length) : (A ++ y :: B).set i z = A ++ z :: B := by
  subst hi
  rw [List.set_append_right _ _ (Nat.le_refl _), Nat.sub_self]
  rfl
theorem rev_mid : ∀ (k : Nat) (A m B : List Int), (A ++ (m ++ B)).length < 4611686018427387904 → m.length < 2 * k → slices_Reverse_int_int.l0 k (A ++ (m ++ B)) (A.length : Int) ((A.length : Int) + (m.length : Int) - 1) = some (A ++ (m.reverse ++ B))
  | 0, A, m, B, hl, hm => by omega
  | k + 1, A, m, B, hl, hm => by
    match m with
    | [] =>
      rw [slices_Reverse_int_int.l0, if_neg (by simp only [List.length_nil]; omega)]
      rfl
    | [y] =>
      rw [slices_Reverse_int_int.l0, if_neg (by simp only [List.length_cons, List.length_nil]; omega)]
      rfl
    | y :: y2 :: r =>
      obtain ⟨m', z, hz⟩ : ∃ m' z, y2 :: r = m' ++ [z] := by
        rcases List.eq_nil_or_concat (y2 :: r) with h | ⟨m', z, h⟩
        · simp at h
        · exact ⟨m', z, by simpa using h⟩
      rw [hz] at hl hm ⊢
      have hlen : (A ++ (y :: (m' ++ [z]) ++ B)).length = A.length + m'.length + 2 + B.length := by simp; omega
      have hml : (y :: (m' ++ [z])).length = m'.length + 2 := by simp
      rw [hlen] at hl
      rw [hml] at hm ⊢
      have e1 : A ++ (y :: (m' ++ [z]) ++ B) = A ++ y :: (m' ++ z :: B) := by simp
      have e2 : ∀ u : Int, A ++ u :: (m' ++ z :: B) = (A ++ u :: m') ++ z :: B := by intro u; simp
      have hj : ((A.length : Int) + ((m'.length + 2 : Nat) : Int) - 1).toNat = (A ++ y :: m').length := by simp; omega
      have hj' : ((A.length : Int) + ((m'.length + 2 : Nat) : Int) - 1).toNat = (A ++ z :: m').length := by simp; omega
      have hrj : rd (A ++ y :: (m' ++ z :: B)) ((A.length : Int) + ((m'.length + 2 : Nat) : Int) - 1) = z := by
        rw [e2]
        exact rd_mid _ _ _ _ (by simp; omega)
      rw [slices_Reverse_int_int.l0, if_pos (by omega), if_pos (by omega), hlen, if_pos (by omega), if_pos (by omega), if_pos (by omega)]
      rw [e1, hrj, rd_mid A y _ _ rfl, Int.toNat_natCast, set_mid A y z _ _ rfl, hj', e2, set_mid _ _ _ _ _ rfl]
      have hw1 : wrap64 ((A.length : Int) + 1) = ((A ++ [z]).length : Int) := by unfold wrap64; simp; omega
      have hw2 : wrap64 ((A.length : Int) + ((m'.length + 2 : Nat) : Int) - 1 - 1) = ((A ++ [z]).length : Int) + (m'.length : Int) - 1 := by unfold wrap64; simp; omega
      have e3 : (A ++ z :: m') ++ y :: B = (A ++ [z]) ++ (m' ++ y :: B) := by simp
      rw [hw1, hw2, e3, rev_mid k (A ++ [z]) m' (y :: B) (by simp; omega) (by omega)]
      simp
theorem reverse_is (l : List Int) (hl : l.length < 4611686018427387904) : slices_Reverse_int_int.f (l.length + 1) l = some l.reverse := by
  have h := rev_mid (l.length + 1) [] l [] (by simpa using hl) (by omega)
  unfold slices_Reverse_int_int.f
  rw [show wrap64 ((l.length : Int) - 1) = (([] : List Int).length : Int) + (l.length : Int) - 1 by unfold wrap64; simp; omega]
  simpa using h
end Go.Proofs.Ytpfbfnbffglbkaa.P
